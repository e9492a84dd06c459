/-
  Base: Words and small laws for all walks of this seat: slices that read as integers, appending one element to a slice of the call's own.
  Kit: Small laws that all walks share: results, bounds, readings behind draws, append of a whole list.
  BinA: Walks of layer 21 (bin): copies of bytes; equal lists of bytes.
  BinB: The bytes of a number (layer 21), in plain Lean.
  BinC: Walks of layer 21 (bin): a number put behind bytes.
  BinD: Walks of copseref21: the bytes of a number, by definition.
  BinE: Walks of layer 21: numbers with a sign.
  BinF: Walks of layer 21: texts.
  BinG: Walks of layer 21: lists.
  BinI: What a reader of bytes reads (layer 21), in plain Lean.
  BinJ: Walks of the reader of bytes (layer 21): its block, and its small methods.
  BinK: Walk of the reader's method that reads a number (layer 21).
  BinH: Walks of layer 21: a list put behind bytes.
  BinL: Walks of the reader's other methods (layer 21).
  BinM: Walks of the reader's methods that read texts and lists (layer 21).
  BinN: Walks of the reader's small methods; a reader of bytes; what is dead reads nothing (layer 21).
  BinP: Walks of copseref21's readers.
  BinQ: Walks of copseref21's readers, continued: whatever reader comes in, failed or not.
  BinR: Walks of copseref21's readers: numbers with a sign, texts, failing.
  WoodX: Plain laws of reading numbers, one behind the other.
  TreeP: Plain laws of trees: which nodes are a tree, the way of a vector, the leaves.
  WoodP: Plain laws of layer 23: how a tree's nodes lie as bytes, what is read of any bytes.
  WoodQ: Plain laws of layer 23: reading with a row of nodes that must come.
-/
import Derived.Test.YtdbonlpkmncggaaRows
import Derived.WalkKit
import Derived.WalkSpells
import Derived.WalkLawsBesides
import Derived.Deep.QuietTactic
import Derived.BigQuiet
import Derived.Lib.Hide
import Derived.Deep.DeepMust
import Derived.Deep.RegionHeld3
import Derived.Deep.DeepFit
import Derived.Outline
import Derived.Deep.DrawnRows
import Derived.Deep.Draws
import Derived.Maps.AppendAt
import Derived.Test.YtdbonlpkmncggaaShelf
import Derived.Lib.SliceRun
import Derived.Laws.BytesArg
import Derived.Lib.ItoaNum
import Derived.Laws.Bits64
import Derived.Defers
import Derived.Laws.Bits64b
namespace Go.Proofs.Ytdbonlpkmncggaa
open Go.RowKit

/-- v is a slice whose elements are the integers l. -/
def Ints (k : IntKind) (w : World) (v : Value) (l : List Int) : Prop :=
  ∃ a c, v = .slice a l.length c ∧ l.length ≤ c ∧ c ≤ 9223372036854775807 ∧ l.length ≤ 140737488351232 ∧
    ∀ (i : Nat) (x : Int), l[i]? = some x → ∃ b o, a = some ⟨b, o, none⟩ ∧ b < w.heap.size ∧ w.cell? ⟨b, o + i, none⟩ = some (.int k x)

theorem Ints.shape {k : IntKind} {w : World} {v : Value} {l : List Int} (h : Ints k w v l) : ∃ a c, v = .slice a l.length c := by
  obtain ⟨a, c, e, _⟩ := h; exact ⟨a, c, e⟩

/-- v lies from block B on (or holds nothing). -/
def Fresh (B : Nat) (v : Value) : Prop := ∀ a n c, v = .slice (some a) n c → n ≠ 0 → B ≤ a.block
theorem Fresh.zero (v : Value) : Fresh 0 v := fun _ _ _ _ _ => Nat.zero_le _
theorem Fresh.mono {B B' : Nat} {v : Value} (h : Fresh B v) (hb : B' ≤ B) : Fresh B' v := fun a n c e h0 => Nat.le_trans hb (h a n c e h0)
theorem Fresh.own {w : World} {base e size n : Nat} {v : Value} {xs : List Value} (h : w.ownsRow base e size v n xs) : Fresh base v := fun a n c e _ =>
  (h.lt a.block (by rw [e]; rfl)).1
theorem Fresh.cut {B k n c : Nat} {a : Option Addr} (h : Fresh B (.slice a n c)) (hk : k ≤ n) : Fresh B (.slice a k c) := fun a' n' c' e h0 => by
  injection e with e1 e2 e3
  subst e1 e2 e3
  exact h _ _ _ rfl (by omega)

theorem Ints.setCell {k : IntKind} {w : World} {v : Value} {l : List Int} {B : Nat} {A : Addr} (h : Ints k w v l) (hf : Fresh B v) (hA : A.block < B) (u : Value) : Ints k (w.setCell A u) v l := by
  obtain ⟨a, c, rfl, h1, h2, h3, h⟩ := h
  refine ⟨a, c, rfl, h1, h2, h3, fun i x hi => ?_⟩
  obtain ⟨b, o, e, hlt, hc⟩ := h i x hi
  refine ⟨b, o, e, by simpa [World.setCell] using hlt, ?_⟩
  have hb : B ≤ b := hf ⟨b, o, none⟩ l.length c (by rw [e]) (by have := (List.getElem?_eq_some_iff.1 hi).1; omega)
  exact (World.cell?_of_block (w := w) (a := ⟨b, o + i, none⟩) (Below.heap_setCell _ _ _ _ (show b ≠ A.block by omega))).trans hc

theorem Ints.below {k : IntKind} {w w' : World} {v : Value} {l : List Int} (h : Ints k w v l) (hb : Below w.heap.size w w') : Ints k w' v l := by
  obtain ⟨a, c, rfl, h1, h2, h3, h⟩ := h
  refine ⟨a, c, rfl, h1, h2, h3, fun i x hi => ?_⟩
  obtain ⟨b, o, e, hlt, hc⟩ := h i x hi
  exact ⟨b, o, e, Nat.lt_of_lt_of_le hlt hb.size, (hb.cell (p := ⟨b, o + i, none⟩) hlt).trans hc⟩

/-- What the call built itself reads as a slice of integers. -/
theorem Ints.own {k : IntKind} {w : World} {base e n : Nat} {v : Value} {l : List Int} (h : w.ownsRow base e 1 v n (l.map (Value.int k))) (hl : l.length ≤ 140737488351232) : n = l.length ∧ Ints k w v l := by
  have hlen : l.length = n := by simpa using h.1
  refine ⟨hlen.symm, ?_⟩
  subst hlen
  rcases h.2 with ⟨rfl, h0⟩ | ⟨g, cap, cur, rfl, hb, hg, h1, h2, h3, h4⟩
  · have : l = [] := List.eq_nil_of_length_eq_zero h0
    subst this
    exact ⟨none, 0, rfl, by simp, by omega, by simp, fun i x hi => by simp at hi⟩
  · refine ⟨_, _, rfl, h1, by simpa [maxLen] using h2, hl, fun i x hi => ⟨g, 0, rfl, (Array.getElem?_eq_some_iff.1 hg).1, ?_⟩⟩
    have hi' : (l.map (Value.int k))[i]? = some (.int k x) := by simp [hi]
    have := World.ownsRow.cells h (g := g) rfl i _ hi'
    have hadd : (⟨g, 0, none⟩ : Addr).add i = ⟨g, 0 + i, none⟩ := by unfold Addr.add; split <;> simp_all
    rwa [hadd] at this


/-- What the table says of an element type: its zero, its cells, its bytes. -/
def EI (P : Program) (e : TypeId) (z : Value) (size bytes : Nat) : Prop :=
  ∃ i, P.info? e = some i ∧ i.zero = some z ∧ i.size = size ∧ i.bytes = bytes ∧ z.cells.size = size ∧ 0 < size ∧ 0 < bytes

theorem EI.of {P : Program} {e : TypeId} {z : Value} {size bytes : Nat} (h : (P.info? e).map (fun i => (i.zero, i.size, i.bytes)) = some (some z, size, bytes)) (h1 : z.cells.size = size) (h2 : 0 < size) (h3 : 0 < bytes) : EI P e z size bytes := by
  obtain ⟨i, a, b, c, d⟩ := info_parts h
  exact ⟨i, a, b, c, d, h1, h2, h3⟩

/-- One element is appended to a slice of the call's own: it lies in the block laid last. -/
theorem app1 {P : Program} {ops : Array Oper} {rest : List Oper} {o : Oper} {a : Act} {Q : Exit → Act → World → Prop} (hgd : o.guard = none) (s x : Operand) (t : TypeId)
    (ho : o.op = .call { callee := .builtin .append, args := #[s, x], argTypes := #[t, t] })
    {e : TypeId} {z : Value} {size bytes : Nat} (ht : P.underlying t = some (.slice e)) (hE : EI P e z size bytes)
    (base : Nat) {v : Value} {n : Nat} {xs : List Value} {W : World} {cs : Array Value} {T : TypeId} {C : Nat} (hs : a.eval s = v) (hown : W.ownsRow base e size v n xs)
    (hx : a.eval x = .slice (some ⟨W.heap.size, 0, none⟩) 1 C) (hcs : cs.size = size) (h1 : ∀ u ∈ cs.toList, u.oneCell' = true)
    (hbytes : (n + 1) * bytes ≤ 140737488355328) (hbase : base ≤ W.heap.size)
    (h : ∀ v' w', w'.ownsRow base e size v' (n + 1) (xs ++ cs.toList) → Below base W w' → W.grownBy w' v.ownBlock → wpList P ops Q rest (a.put o.dst v') w') :
    wpList P ops Q (o :: rest) a (W.alloc (.cells cs T)) := by
  obtain ⟨i, hi, hz, hsize, hby, hzs, hsz, hbp⟩ := hE
  have h63 : n + 1 ≤ 140737488355328 := Nat.le_trans (Nat.le_mul_of_pos_right _ hbp) hbytes
  refine wpList_append_own _ hgd s x t ho base e i z size bytes ht hi hz hsize hby hzs hsz v n xs hs (hown.alloc _) ⟨W.heap.size, 0, none⟩ 1 C cs.toList hx (by simp [hcs]) ?_ h1 (by unfold maxLen; omega) hbytes (by simp; omega) ?_
  · intro j u hu
    have hadd : (⟨W.heap.size, 0, none⟩ : Addr).add j = ⟨W.heap.size, j, none⟩ := by unfold Addr.add; split <;> simp_all
    rw [hadd]
    have hb := heap_alloc_new W (.cells cs T)
    simp only [World.cell?, hb]
    simpa using hu
  · intro v' w' hown' hg _
    refine h v' w' hown' ?_ ?_
    · exact ((Below.refl _ _).alloc hbase _).grown hg (by simp; omega) fun k hk => (hown.lt k hk).1
    · exact ⟨hg.os, hg.tape, hg.output, by have := hg.size; simp at this; omega, fun k hk hne => (hg.block k (by simp; omega) hne).trans (Below.heap_alloc W _ k hk)⟩

theorem Ints.take {kd : IntKind} {w : World} {a : Option Addr} {c k n : Nat} {l : List Int} (h : Ints kd w (.slice a n c) l) (hk : k ≤ l.length) : n = l.length ∧ Ints kd w (.slice a k c) (l.take k) := by
  obtain ⟨a', c', e, h1, h2, h3, h⟩ := h
  injection e with e1 e2 e3
  subst e1 e2 e3
  have hl : (l.take k).length = k := by simp; omega
  refine ⟨rfl, a, c, by rw [hl], by omega, h2, by omega, fun i x hi => h i x ?_⟩
  rw [List.getElem?_take] at hi
  split at hi
  · exact hi
  · cases hi

theorem getElem?_ex {α : Type} {l : List α} {k : Nat} (h : k < l.length) : ∃ x, l[k]? = some x := ⟨_, List.getElem?_eq_getElem h⟩

theorem take_snoc' {α : Type} {l : List α} {k : Nat} {x : α} (h : l[k]? = some x) : l.take (k + 1) = l.take k ++ [x] := by
  rw [List.take_add_one, h]; rfl

theorem take_step {la lb : List Int} {k : Nat} {x : Int} (ha : la[k]? = some x) (hb : lb[k]? = some x) (h : la.take k = lb.take k) : la.take (k + 1) = lb.take (k + 1) := by
  rw [take_snoc' ha, take_snoc' hb, h]

theorem ret_bool {a b : Bool} (h : a = b) : Ending.returned (.bool a) = .returned (.bool b) := by rw [h]
theorem ret_int {k : IntKind} {a b : Int} (h : a = b) : Ending.returned (.int k a) = .returned (.int k b) := by rw [h]

theorem mkfull {P : Program} {w : World} {ops : Array Oper} {rest : List Oper} {o : Oper} {a : Act} {Q : Exit → Act → World → Prop}
    (hg : o.guard = none) (l c : Operand) (t : TypeId) (hop : o.op = Op.makeSlice t l c) {e : TypeId} {z : Value} {size bytes : Nat} (ht : P.underlying t = some (.slice e)) (hE : EI P e z size bytes)
    (base : Nat) (n : Nat) {kl kc : IntKind} {L C : Int} (hl : a.eval l = .int kl L) (hc : a.eval c = .int kc C) (hL : L = (n : Int)) (hC : C = (n : Int)) (b2 : bytes * n ≤ 140737488355328) (hbase : base ≤ w.heap.size)
    (hK : ∀ w', w'.ownsRow base e size (.slice (some ⟨w.heap.size, 0, none⟩) n n) n (madeCells z.cells (n * size)).toList → Below base w w' → w.grownBy w' none → wpList P ops Q rest (a.put o.dst (.slice (some ⟨w.heap.size, 0, none⟩) n n)) w') :
    wpList P ops Q (o :: rest) a w := by
  obtain ⟨i, hi, hz, hsize, hby, hzs, hsz, hbp⟩ := hE
  have h63 : n ≤ 140737488355328 := Nat.le_trans (Nat.le_mul_of_pos_left _ hbp) b2
  exact wpList_make_full w hg l c t hop base e i z size ht hi hz hsize kl kc L C n hl hc hL hC (by rw [hby]; omega) (by unfold maxLen; omega) hbase fun w' h1 h2 => hK w' h1 ((Below.refl _ _).grown h2 hbase (by simp)) h2

theorem eiInt : EI Try.prog 3 (.int .i64 0) 1 8 := .of (by kernel_rfl) rfl (by decide) (by decide)
end Go.Proofs.Ytdbonlpkmncggaa

namespace Go.Proofs.Ytdbonlpkmncggaa
open Go.RowKit

def Ok64 (z : Int) : Prop := -9223372036854775808 ≤ z ∧ z ≤ 9223372036854775807

instance (z : Int) : Decidable (Ok64 z) := by unfold Ok64; infer_instance

theorem quiet_left {P : Program} {f : FuncId} {args : Array Value} {w : World} {n : Nat} {v : Value}
    (h : Calls P f args (w.drewN n) fun e w' => e = .returned v ∧ w.drewN n = w') : Calls P f args (w.drewN n) fun e w'' => e = .returned v ∧ ∃ m, w'' = w.drewN m :=
  h.mono fun _ _ ⟨he, hm⟩ => ⟨he, n, hm.symm⟩

theorem below_drewN {B : Nat} {a w : World} (h : Below B a w) (n : Nat) : Below B a (w.drewN n) := ⟨h.os, h.tape, h.output, h.size, h.block⟩

theorem Ints.drewN {k : IntKind} {w : World} {v : Value} {l : List Int} (h : Ints k w v l) (n : Nat) : Ints k (w.drewN n) v l := h.below (below_drewN (Below.refl _ _) n)

theorem Ints.cutAt {k : IntKind} {w : World} {ad : Option Addr} {n c : Nat} {l : List Int} (h : Ints k w (.slice ad n c) l) {i m : Nat} (hi : i + m ≤ l.length) {ad' : Option Addr} (c' : Nat) (hc : m ≤ c') (hc2 : c' ≤ 9223372036854775807)
    (ha : m ≠ 0 → ∀ b o, ad = some ⟨b, o, none⟩ → ad' = some ⟨b, o + i, none⟩) : Ints k w (.slice ad' m c') ((l.drop i).take m) := by
  obtain ⟨a0, c0, e, h1, h2, h3, h4⟩ := h
  injection e with e1 e2 e3
  subst e1 e2 e3
  have hlen : ((l.drop i).take m).length = m := by simp; omega
  refine ⟨ad', c', by rw [hlen], by omega, hc2, by omega, fun j x hj => ?_⟩
  have hjm : j < m := by have := (List.getElem?_eq_some_iff.1 hj).1; omega
  rw [List.getElem?_take, if_pos hjm, List.getElem?_drop] at hj
  obtain ⟨b, o, e, hb, hc⟩ := h4 (i + j) x hj
  exact ⟨b, o + i, ha (by omega) b o e, hb, by rw [Nat.add_assoc]; exact hc⟩

theorem Ints.new (k : IntKind) (W : World) (T : TypeId) (cs : Array Value) (l : List Int) (n c : Nat) (hcs : cs.toList = l.map (Value.int k)) (hn : n = l.length) (hc : n ≤ c) (hc2 : c ≤ 1000000) : Ints k (W.alloc (.cells cs T)) (.slice (some ⟨W.heap.size, 0, none⟩) n c) l := by
  subst hn
  refine ⟨_, _, rfl, hc, by omega, by omega, fun i x hi => ⟨W.heap.size, 0, rfl, by simp, ?_⟩⟩
  have hb := heap_alloc_new W (.cells cs T)
  simp only [World.cell?, hb]
  have : cs.toList[i]? = some (.int k x) := by rw [hcs]; simp [hi]
  simpa using this

theorem Ints.new' (k : IntKind) (W : World) (T : TypeId) (cs : Array Value) (l : List Int) (b n c : Nat) (hb : b = W.heap.size) (hcs : cs.toList = l.map (Value.int k)) (hn : n = l.length) (hc : n ≤ c) (hc2 : c ≤ 1000000) : Ints k (W.alloc (.cells cs T)) (.slice (some ⟨b, 0, none⟩) n c) l := by
  subst hb; exact Ints.new k W T cs l n c hcs hn hc hc2

/-- Append of a whole list of integers onto a row of the call's own. -/
theorem appInts {P : Program} {ops : Array Oper} {rest : List Oper} {o : Oper} {a : Act} {Q : Exit → Act → World → Prop} (hgd : o.guard = none) (s x : Operand) (t : TypeId)
    (ho : o.op = .call { callee := .builtin .append, args := #[s, x], argTypes := #[t, t] })
    {e : TypeId} {z : Value} {bytes : Nat} (ht : P.underlying t = some (.slice e)) (hE : EI P e z 1 bytes)
    (base : Nat) {v : Value} {n : Nat} {xs : List Value} {W : World} {k : IntKind} {vx : Value} {l : List Int} (hs : a.eval s = v) (hown : W.ownsRow base e 1 v n xs)
    (hx : a.eval x = vx) (hl : Ints k W vx l) (hbytes : (n + l.length) * bytes ≤ 140737488355328) (hbase : base ≤ W.heap.size)
    (h : ∀ v' w', w'.ownsRow base e 1 v' (n + l.length) (xs ++ l.map (Value.int k)) → Below base W w' → W.grownBy w' v.ownBlock → wpList P ops Q rest (a.put o.dst v') w') :
    wpList P ops Q (o :: rest) a W := by
  obtain ⟨i, hi, hz, hsize, hby, hzs, hsz, hbp⟩ := hE
  have h63 : n + l.length ≤ 140737488355328 := Nat.le_trans (Nat.le_mul_of_pos_right _ hbp) hbytes
  obtain ⟨ad, c, rfl, g1, g2, g3, h4⟩ := hl
  rcases ad with _ | ad
  · have hl0 : l = [] := by
      cases l with
      | nil => rfl
      | cons x l => obtain ⟨b, o, e, _⟩ := h4 0 x rfl; cases e
    subst hl0
    have hrun : (Builtin.append_ #[t, t] o.type #[v, .slice none 0 c]).run P W = .ok v W := by
      rcases hown.2 with ⟨rfl, rfl⟩ | ⟨g, cap, cur, rfl, _, _, hnc, _⟩
      · simp [Builtin.append_, run_underlying ht, sizeOf, typeInfo, hi, Builtin.lenOf, Builtin.firstCells]
      · simp [Builtin.append_, run_underlying ht, sizeOf, typeInfo, hi, Builtin.lenOf, Builtin.firstCells, hnc, storeCells]
    refine wpList_plain hgd fun K hK => ?_
    unfold Oper.wp execOp
    simp only [ho, resolve, invoke, builtin, Sem.run_bind, Sem.run_pure, Result.andThen_ok, List.map_toArray, List.map_cons, List.map_nil, hs, hx, List.length_nil, hrun]
    exact hK _ _ (h v W (by simpa using hown) (Below.refl _ _) ⟨rfl, rfl, rfl, Nat.le_refl _, fun _ _ _ => rfl⟩)
  · refine wpList_append_own _ hgd s x t ho base e i z 1 bytes ht hi hz hsize hby hzs hsz v n xs hs hown ad l.length c (l.map (Value.int k)) hx (by simp) ?_ (by intro u hu; simp at hu; obtain ⟨y, _, rfl⟩ := hu; rfl) (by unfold maxLen; omega) hbytes hbase ?_
    · intro j u hu
      rw [List.getElem?_map] at hu
      cases hy : l[j]? with
      | none => rw [hy] at hu; cases hu
      | some y =>
        rw [hy] at hu
        obtain ⟨b, o, e, _, hc⟩ := h4 j y hy
        injection e with e
        subst e
        have hadd : (⟨b, o, none⟩ : Addr).add j = ⟨b, o + j, none⟩ := by unfold Addr.add; split <;> simp_all
        rw [hadd, hc]
        simpa using hu
    · intro v' w' hown' hg _
      exact h v' w' hown' ((Below.refl _ _).grown hg hbase fun k hk => (hown.lt k hk).1) hg

theorem below_tr {B : Nat} {a b c : World} (h : Below B a b) (k : Below B b c) : Below B a c := h.trans k

theorem own_keep {w w' : World} {base e size n : Nat} {v : Value} {xs : List Value} (h : w.ownsRow base e size v n xs) (hk : ∀ g, base ≤ g → g < w.heap.size → w'.heap[g]? = w.heap[g]?) : w'.ownsRow base e size v n xs := by
  have hlt := h.lt
  refine ⟨h.1, ?_⟩
  rcases h.2 with h1 | ⟨g, cap, cur, rfl, h2, h3, h4⟩
  · exact .inl h1
  · exact .inr ⟨g, cap, cur, rfl, h2, (hk g (hlt g rfl).1 (hlt g rfl).2).trans h3, h4⟩

theorem ints_nil (k : IntKind) (w : World) (a : Option Addr) (c : Nat) (hc : c ≤ 9223372036854775807) : Ints k w (.slice a 0 c) [] := ⟨a, c, rfl, by simp, hc, by simp, fun i x h => by simp at h⟩

theorem Ints.len {k : IntKind} {w : World} {a : Option Addr} {n n' c : Nat} {l : List Int} (h : Ints k w (.slice a n c) l) (e : n = n') : Ints k w (.slice a n' c) l := by subst e; exact h

/-- Append of a whole list of integers onto a row of the call's own, whatever its guard. -/
theorem appIntsW {P : Program} {ops : Array Oper} {rest : List Oper} {o : Oper} {a : Act} {Q : Exit → Act → World → Prop} (hgd : Region.wanted o (yielded ops a.tmps) = true) (s x : Operand) (t : TypeId)
    (ho : o.op = .call { callee := .builtin .append, args := #[s, x], argTypes := #[t, t] })
    {e : TypeId} {z : Value} {bytes : Nat} (ht : P.underlying t = some (.slice e)) (hE : EI P e z 1 bytes)
    (base : Nat) {v : Value} {n : Nat} {xs : List Value} {W : World} {k : IntKind} {vx : Value} {l : List Int} (hs : a.eval s = v) (hown : W.ownsRow base e 1 v n xs)
    (hx : a.eval x = vx) (hl : Ints k W vx l) (hbytes : (n + l.length) * bytes ≤ 140737488355328) (hbase : base ≤ W.heap.size)
    (h : ∀ v' w', w'.ownsRow base e 1 v' (n + l.length) (xs ++ l.map (Value.int k)) → Below base W w' → W.grownBy w' v.ownBlock → wpList P ops Q rest (a.put o.dst v') w') :
    wpList P ops Q (o :: rest) a W := by
  obtain ⟨i, hi, hz, hsize, hby, hzs, hsz, hbp⟩ := hE
  have h63 : n + l.length ≤ 140737488355328 := Nat.le_trans (Nat.le_mul_of_pos_right _ hbp) hbytes
  obtain ⟨ad, c, rfl, g1, g2, g3, h4⟩ := hl
  have hrun : ∃ v' w', (Builtin.append_ #[t, t] o.type #[v, .slice ad l.length c]).run P W = .ok v' w' ∧ w'.ownsRow base e 1 v' (n + l.length) (xs ++ l.map (Value.int k)) ∧ W.grownBy w' v.ownBlock := by
    rcases ad with _ | ad
    · have hl0 : l = [] := by
        cases l with
        | nil => rfl
        | cons x l => obtain ⟨b, o, e, _⟩ := h4 0 x rfl; cases e
      subst hl0
      refine ⟨v, W, ?_, by simpa using hown, ⟨rfl, rfl, rfl, Nat.le_refl _, fun _ _ _ => rfl⟩⟩
      rcases hown.2 with ⟨rfl, rfl⟩ | ⟨g, cap, cur, rfl, _, _, hnc, _⟩
      · simp [Builtin.append_, run_underlying ht, sizeOf, typeInfo, hi, Builtin.lenOf, Builtin.firstCells]
      · simp [Builtin.append_, run_underlying ht, sizeOf, typeInfo, hi, Builtin.lenOf, Builtin.firstCells, hnc, storeCells]
    · obtain ⟨v', w', hrun, h2, h3, _⟩ := run_append_own_at (P := P) W base t o.type e i z 1 bytes ht hi hz hsize hby hzs hsz v n xs hown ad l.length c (l.map (Value.int k)) (by simp) (by
        intro j u hu
        rw [List.getElem?_map] at hu
        cases hy : l[j]? with
        | none => rw [hy] at hu; cases hu
        | some y =>
          rw [hy] at hu
          obtain ⟨b, o, e, _, hc⟩ := h4 j y hy
          injection e with e
          subst e
          have hadd : (⟨b, o, none⟩ : Addr).add j = ⟨b, o + j, none⟩ := by unfold Addr.add; split <;> simp_all
          rw [hadd, hc]
          simpa using hu) (by intro u hu; simp at hu; obtain ⟨y, _, rfl⟩ := hu; rfl) (by unfold maxLen; omega) hbytes hbase
      exact ⟨v', w', hrun, h2, h3⟩
  obtain ⟨v', w', hrun, h2, h3⟩ := hrun
  refine wpList_step fun K hK => ?_
  rw [if_pos hgd]
  unfold Oper.wp execOp
  simp only [ho, resolve, invoke, builtin, Sem.run_bind, Sem.run_pure, Result.andThen_ok, List.map_toArray, List.map_cons, List.map_nil, hs, hx, hrun]
  exact hK _ _ (h v' w' h2 ((Below.refl _ _).grown h3 hbase fun k hk => (hown.lt k hk).1) h3)

/-! ### words for the lines that gen.py prints -/
theorem Bs {B : Nat} {a w : World} {A : Addr} {u : Value} (hb : Below B a w) (h : B ≤ A.block := by first | omega | (simp; done) | (simp; omega)) : Below B a (w.setCell A u) := hb.setCell h u

theorem Ba {B : Nat} {a w : World} {o : Obj} (hb : Below B a w) (h : B ≤ w.heap.size := by first | omega | (simp; done) | (simp; omega)) : Below B a (w.alloc o) := hb.alloc h o

theorem Bd {B : Nat} {a w : World} (hb : Below B a w) : Below B a w.drew := hb.drew

theorem Bn {B n : Nat} {a w : World} (hb : Below B a w) : Below B a (w.drewN n) := below_drewN hb n

theorem Bt {B C : Nat} {a m w : World} (k : Below C m w) (hb : Below B a m) (h : B ≤ C := by first | omega | (simp; done) | (simp; omega)) : Below B a w := hb.trans (k.mono h)

theorem Bc {B C : Nat} {a m w : World} (hb : Below B a m) (k : Below C m w) (h : B ≤ C := by first | omega | (simp; done) | (simp; omega)) : Below B a w := hb.trans (k.mono h)

theorem sz {C L : Nat} {m w : World} (k : Below C m w) (h : L ≤ m.heap.size := by first | omega | (simp; done) | (simp; omega)) : L ≤ w.heap.size := Nat.le_trans h k.size

theorem Ints.alloc {k : IntKind} {w : World} {v : Value} {l : List Int} (h : Ints k w v l) (o : Obj) : Ints k (w.alloc o) v l := h.below (Ba (Below.refl _ _))

theorem Ints.drew {k : IntKind} {w : World} {v : Value} {l : List Int} (h : Ints k w v l) : Ints k w.drew v l := h.below (Bd (Below.refl _ _))

theorem lnm {a b : Nat} (h : a < b) : a < b ∧ a ≠ b ∧ b ≠ a := ⟨h, by omega, by omega⟩

theorem kc {B b o : Nat} {m w : World} {v : Value} (k : Below B m w) (e : m.cell? ⟨b, o, none⟩ = some v) (h : b < B) : w.cell? ⟨b, o, none⟩ = some v := (k.cell (p := ⟨b, o, none⟩) h).trans e

theorem kf {B b o : Nat} {m w : World} (k : Below B m w) (e : m.frozen? ⟨b, o, none⟩ = false) (h : b < B) : w.frozen? ⟨b, o, none⟩ = false := (k.frozen (p := ⟨b, o, none⟩) h).trans e

theorem gc {R b o : Nat} {m w : World} {v : Value} (k : m.grownBy w (some R)) (e : m.cell? ⟨b, o, none⟩ = some v) (h : b < m.heap.size) (hn : R ≠ b) : w.cell? ⟨b, o, none⟩ = some v :=
  (World.cell?_of_block (w := m) (w' := w) (a := ⟨b, o, none⟩) (k.block b h (by simp; omega))).trans e

theorem gf {R b o : Nat} {m w : World} (k : m.grownBy w (some R)) (e : m.frozen? ⟨b, o, none⟩ = false) (h : b < m.heap.size) (hn : R ≠ b) : w.frozen? ⟨b, o, none⟩ = false := by
  have hh := k.block b h (by simp; omega)
  simp only [World.frozen?] at e ⊢
  rw [hh]
  exact e

theorem k2 (b : Nat) (v0 v1 : Value) {B : Nat} {m w : World} (k : Below B m w) (e : m.cell? ⟨b, 0, none⟩ = some v0 ∧ m.cell? ⟨b, 1, none⟩ = some v1) (h : b < B := by first | omega | (simp; done) | (simp; omega)) : w.cell? ⟨b, 0, none⟩ = some v0 ∧ w.cell? ⟨b, 1, none⟩ = some v1 := by
  obtain ⟨e0, e1⟩ := e
  exact ⟨kc k e0 h, kc k e1 h⟩

theorem g2 (b : Nat) (v0 v1 : Value) {R : Nat} {m w : World} (k : m.grownBy w (some R)) (e : m.cell? ⟨b, 0, none⟩ = some v0 ∧ m.cell? ⟨b, 1, none⟩ = some v1) (h : b < m.heap.size := by first | omega | (simp; done) | (simp; omega)) (hn : R ≠ b := by omega) : w.cell? ⟨b, 0, none⟩ = some v0 ∧ w.cell? ⟨b, 1, none⟩ = some v1 := by
  obtain ⟨e0, e1⟩ := e
  exact ⟨gc k e0 h hn, gc k e1 h hn⟩

theorem k2f (b : Nat) (v0 v1 : Value) {B : Nat} {m w : World} (k : Below B m w) (e : m.cell? ⟨b, 0, none⟩ = some v0 ∧ m.frozen? ⟨b, 0, none⟩ = false ∧ m.cell? ⟨b, 1, none⟩ = some v1 ∧ m.frozen? ⟨b, 1, none⟩ = false) (h : b < B := by first | omega | (simp; done) | (simp; omega)) : w.cell? ⟨b, 0, none⟩ = some v0 ∧ w.frozen? ⟨b, 0, none⟩ = false ∧ w.cell? ⟨b, 1, none⟩ = some v1 ∧ w.frozen? ⟨b, 1, none⟩ = false := by
  obtain ⟨e0, f0, e1, f1⟩ := e
  exact ⟨kc k e0 h, kf k f0 h, kc k e1 h, kf k f1 h⟩

theorem g2f (b : Nat) (v0 v1 : Value) {R : Nat} {m w : World} (k : m.grownBy w (some R)) (e : m.cell? ⟨b, 0, none⟩ = some v0 ∧ m.frozen? ⟨b, 0, none⟩ = false ∧ m.cell? ⟨b, 1, none⟩ = some v1 ∧ m.frozen? ⟨b, 1, none⟩ = false) (h : b < m.heap.size := by first | omega | (simp; done) | (simp; omega)) (hn : R ≠ b := by omega) : w.cell? ⟨b, 0, none⟩ = some v0 ∧ w.frozen? ⟨b, 0, none⟩ = false ∧ w.cell? ⟨b, 1, none⟩ = some v1 ∧ w.frozen? ⟨b, 1, none⟩ = false := by
  obtain ⟨e0, f0, e1, f1⟩ := e
  exact ⟨gc k e0 h hn, gf k f0 h hn, gc k e1 h hn, gf k f1 h hn⟩

theorem k3 (b : Nat) (v0 v1 v2 : Value) {B : Nat} {m w : World} (k : Below B m w) (e : m.cell? ⟨b, 0, none⟩ = some v0 ∧ m.cell? ⟨b, 1, none⟩ = some v1 ∧ m.cell? ⟨b, 2, none⟩ = some v2) (h : b < B := by first | omega | (simp; done) | (simp; omega)) : w.cell? ⟨b, 0, none⟩ = some v0 ∧ w.cell? ⟨b, 1, none⟩ = some v1 ∧ w.cell? ⟨b, 2, none⟩ = some v2 := by
  obtain ⟨e0, e1, e2⟩ := e
  exact ⟨kc k e0 h, kc k e1 h, kc k e2 h⟩

theorem g3 (b : Nat) (v0 v1 v2 : Value) {R : Nat} {m w : World} (k : m.grownBy w (some R)) (e : m.cell? ⟨b, 0, none⟩ = some v0 ∧ m.cell? ⟨b, 1, none⟩ = some v1 ∧ m.cell? ⟨b, 2, none⟩ = some v2) (h : b < m.heap.size := by first | omega | (simp; done) | (simp; omega)) (hn : R ≠ b := by omega) : w.cell? ⟨b, 0, none⟩ = some v0 ∧ w.cell? ⟨b, 1, none⟩ = some v1 ∧ w.cell? ⟨b, 2, none⟩ = some v2 := by
  obtain ⟨e0, e1, e2⟩ := e
  exact ⟨gc k e0 h hn, gc k e1 h hn, gc k e2 h hn⟩

theorem k3f (b : Nat) (v0 v1 v2 : Value) {B : Nat} {m w : World} (k : Below B m w) (e : m.cell? ⟨b, 0, none⟩ = some v0 ∧ m.frozen? ⟨b, 0, none⟩ = false ∧ m.cell? ⟨b, 1, none⟩ = some v1 ∧ m.frozen? ⟨b, 1, none⟩ = false ∧ m.cell? ⟨b, 2, none⟩ = some v2 ∧ m.frozen? ⟨b, 2, none⟩ = false) (h : b < B := by first | omega | (simp; done) | (simp; omega)) : w.cell? ⟨b, 0, none⟩ = some v0 ∧ w.frozen? ⟨b, 0, none⟩ = false ∧ w.cell? ⟨b, 1, none⟩ = some v1 ∧ w.frozen? ⟨b, 1, none⟩ = false ∧ w.cell? ⟨b, 2, none⟩ = some v2 ∧ w.frozen? ⟨b, 2, none⟩ = false := by
  obtain ⟨e0, f0, e1, f1, e2, f2⟩ := e
  exact ⟨kc k e0 h, kf k f0 h, kc k e1 h, kf k f1 h, kc k e2 h, kf k f2 h⟩

theorem k4 (b : Nat) (v0 v1 v2 v3 : Value) {B : Nat} {m w : World} (k : Below B m w) (e : m.cell? ⟨b, 0, none⟩ = some v0 ∧ m.cell? ⟨b, 1, none⟩ = some v1 ∧ m.cell? ⟨b, 2, none⟩ = some v2 ∧ m.cell? ⟨b, 3, none⟩ = some v3) (h : b < B := by first | omega | (simp; done) | (simp; omega)) : w.cell? ⟨b, 0, none⟩ = some v0 ∧ w.cell? ⟨b, 1, none⟩ = some v1 ∧ w.cell? ⟨b, 2, none⟩ = some v2 ∧ w.cell? ⟨b, 3, none⟩ = some v3 := by
  obtain ⟨e0, e1, e2, e3⟩ := e
  exact ⟨kc k e0 h, kc k e1 h, kc k e2 h, kc k e3 h⟩

theorem g4 (b : Nat) (v0 v1 v2 v3 : Value) {R : Nat} {m w : World} (k : m.grownBy w (some R)) (e : m.cell? ⟨b, 0, none⟩ = some v0 ∧ m.cell? ⟨b, 1, none⟩ = some v1 ∧ m.cell? ⟨b, 2, none⟩ = some v2 ∧ m.cell? ⟨b, 3, none⟩ = some v3) (h : b < m.heap.size := by first | omega | (simp; done) | (simp; omega)) (hn : R ≠ b := by omega) : w.cell? ⟨b, 0, none⟩ = some v0 ∧ w.cell? ⟨b, 1, none⟩ = some v1 ∧ w.cell? ⟨b, 2, none⟩ = some v2 ∧ w.cell? ⟨b, 3, none⟩ = some v3 := by
  obtain ⟨e0, e1, e2, e3⟩ := e
  exact ⟨gc k e0 h hn, gc k e1 h hn, gc k e2 h hn, gc k e3 h hn⟩

theorem k5 (b : Nat) (v0 v1 v2 v3 v4 : Value) {B : Nat} {m w : World} (k : Below B m w) (e : m.cell? ⟨b, 0, none⟩ = some v0 ∧ m.cell? ⟨b, 1, none⟩ = some v1 ∧ m.cell? ⟨b, 2, none⟩ = some v2 ∧ m.cell? ⟨b, 3, none⟩ = some v3 ∧ m.cell? ⟨b, 4, none⟩ = some v4) (h : b < B := by first | omega | (simp; done) | (simp; omega)) : w.cell? ⟨b, 0, none⟩ = some v0 ∧ w.cell? ⟨b, 1, none⟩ = some v1 ∧ w.cell? ⟨b, 2, none⟩ = some v2 ∧ w.cell? ⟨b, 3, none⟩ = some v3 ∧ w.cell? ⟨b, 4, none⟩ = some v4 := by
  obtain ⟨e0, e1, e2, e3, e4⟩ := e
  exact ⟨kc k e0 h, kc k e1 h, kc k e2 h, kc k e3 h, kc k e4 h⟩

theorem g5 (b : Nat) (v0 v1 v2 v3 v4 : Value) {R : Nat} {m w : World} (k : m.grownBy w (some R)) (e : m.cell? ⟨b, 0, none⟩ = some v0 ∧ m.cell? ⟨b, 1, none⟩ = some v1 ∧ m.cell? ⟨b, 2, none⟩ = some v2 ∧ m.cell? ⟨b, 3, none⟩ = some v3 ∧ m.cell? ⟨b, 4, none⟩ = some v4) (h : b < m.heap.size := by first | omega | (simp; done) | (simp; omega)) (hn : R ≠ b := by omega) : w.cell? ⟨b, 0, none⟩ = some v0 ∧ w.cell? ⟨b, 1, none⟩ = some v1 ∧ w.cell? ⟨b, 2, none⟩ = some v2 ∧ w.cell? ⟨b, 3, none⟩ = some v3 ∧ w.cell? ⟨b, 4, none⟩ = some v4 := by
  obtain ⟨e0, e1, e2, e3, e4⟩ := e
  exact ⟨gc k e0 h hn, gc k e1 h hn, gc k e2 h hn, gc k e3 h hn, gc k e4 h hn⟩

theorem k6 (b : Nat) (v0 v1 v2 v3 v4 v5 : Value) {B : Nat} {m w : World} (k : Below B m w) (e : m.cell? ⟨b, 0, none⟩ = some v0 ∧ m.cell? ⟨b, 1, none⟩ = some v1 ∧ m.cell? ⟨b, 2, none⟩ = some v2 ∧ m.cell? ⟨b, 3, none⟩ = some v3 ∧ m.cell? ⟨b, 4, none⟩ = some v4 ∧ m.cell? ⟨b, 5, none⟩ = some v5) (h : b < B := by first | omega | (simp; done) | (simp; omega)) : w.cell? ⟨b, 0, none⟩ = some v0 ∧ w.cell? ⟨b, 1, none⟩ = some v1 ∧ w.cell? ⟨b, 2, none⟩ = some v2 ∧ w.cell? ⟨b, 3, none⟩ = some v3 ∧ w.cell? ⟨b, 4, none⟩ = some v4 ∧ w.cell? ⟨b, 5, none⟩ = some v5 := by
  obtain ⟨e0, e1, e2, e3, e4, e5⟩ := e
  exact ⟨kc k e0 h, kc k e1 h, kc k e2 h, kc k e3 h, kc k e4 h, kc k e5 h⟩

theorem g6 (b : Nat) (v0 v1 v2 v3 v4 v5 : Value) {R : Nat} {m w : World} (k : m.grownBy w (some R)) (e : m.cell? ⟨b, 0, none⟩ = some v0 ∧ m.cell? ⟨b, 1, none⟩ = some v1 ∧ m.cell? ⟨b, 2, none⟩ = some v2 ∧ m.cell? ⟨b, 3, none⟩ = some v3 ∧ m.cell? ⟨b, 4, none⟩ = some v4 ∧ m.cell? ⟨b, 5, none⟩ = some v5) (h : b < m.heap.size := by first | omega | (simp; done) | (simp; omega)) (hn : R ≠ b := by omega) : w.cell? ⟨b, 0, none⟩ = some v0 ∧ w.cell? ⟨b, 1, none⟩ = some v1 ∧ w.cell? ⟨b, 2, none⟩ = some v2 ∧ w.cell? ⟨b, 3, none⟩ = some v3 ∧ w.cell? ⟨b, 4, none⟩ = some v4 ∧ w.cell? ⟨b, 5, none⟩ = some v5 := by
  obtain ⟨e0, e1, e2, e3, e4, e5⟩ := e
  exact ⟨gc k e0 h hn, gc k e1 h hn, gc k e2 h hn, gc k e3 h hn, gc k e4 h hn, gc k e5 h hn⟩

theorem k7 (b : Nat) (v0 v1 v2 v3 v4 v5 v6 : Value) {B : Nat} {m w : World} (k : Below B m w) (e : m.cell? ⟨b, 0, none⟩ = some v0 ∧ m.cell? ⟨b, 1, none⟩ = some v1 ∧ m.cell? ⟨b, 2, none⟩ = some v2 ∧ m.cell? ⟨b, 3, none⟩ = some v3 ∧ m.cell? ⟨b, 4, none⟩ = some v4 ∧ m.cell? ⟨b, 5, none⟩ = some v5 ∧ m.cell? ⟨b, 6, none⟩ = some v6) (h : b < B := by first | omega | (simp; done) | (simp; omega)) : w.cell? ⟨b, 0, none⟩ = some v0 ∧ w.cell? ⟨b, 1, none⟩ = some v1 ∧ w.cell? ⟨b, 2, none⟩ = some v2 ∧ w.cell? ⟨b, 3, none⟩ = some v3 ∧ w.cell? ⟨b, 4, none⟩ = some v4 ∧ w.cell? ⟨b, 5, none⟩ = some v5 ∧ w.cell? ⟨b, 6, none⟩ = some v6 := by
  obtain ⟨e0, e1, e2, e3, e4, e5, e6⟩ := e
  exact ⟨kc k e0 h, kc k e1 h, kc k e2 h, kc k e3 h, kc k e4 h, kc k e5 h, kc k e6 h⟩

theorem g7 (b : Nat) (v0 v1 v2 v3 v4 v5 v6 : Value) {R : Nat} {m w : World} (k : m.grownBy w (some R)) (e : m.cell? ⟨b, 0, none⟩ = some v0 ∧ m.cell? ⟨b, 1, none⟩ = some v1 ∧ m.cell? ⟨b, 2, none⟩ = some v2 ∧ m.cell? ⟨b, 3, none⟩ = some v3 ∧ m.cell? ⟨b, 4, none⟩ = some v4 ∧ m.cell? ⟨b, 5, none⟩ = some v5 ∧ m.cell? ⟨b, 6, none⟩ = some v6) (h : b < m.heap.size := by first | omega | (simp; done) | (simp; omega)) (hn : R ≠ b := by omega) : w.cell? ⟨b, 0, none⟩ = some v0 ∧ w.cell? ⟨b, 1, none⟩ = some v1 ∧ w.cell? ⟨b, 2, none⟩ = some v2 ∧ w.cell? ⟨b, 3, none⟩ = some v3 ∧ w.cell? ⟨b, 4, none⟩ = some v4 ∧ w.cell? ⟨b, 5, none⟩ = some v5 ∧ w.cell? ⟨b, 6, none⟩ = some v6 := by
  obtain ⟨e0, e1, e2, e3, e4, e5, e6⟩ := e
  exact ⟨gc k e0 h hn, gc k e1 h hn, gc k e2 h hn, gc k e3 h hn, gc k e4 h hn, gc k e5 h hn, gc k e6 h hn⟩

theorem k8 (b : Nat) (v0 v1 v2 v3 v4 v5 v6 v7 : Value) {B : Nat} {m w : World} (k : Below B m w) (e : m.cell? ⟨b, 0, none⟩ = some v0 ∧ m.cell? ⟨b, 1, none⟩ = some v1 ∧ m.cell? ⟨b, 2, none⟩ = some v2 ∧ m.cell? ⟨b, 3, none⟩ = some v3 ∧ m.cell? ⟨b, 4, none⟩ = some v4 ∧ m.cell? ⟨b, 5, none⟩ = some v5 ∧ m.cell? ⟨b, 6, none⟩ = some v6 ∧ m.cell? ⟨b, 7, none⟩ = some v7) (h : b < B := by first | omega | (simp; done) | (simp; omega)) : w.cell? ⟨b, 0, none⟩ = some v0 ∧ w.cell? ⟨b, 1, none⟩ = some v1 ∧ w.cell? ⟨b, 2, none⟩ = some v2 ∧ w.cell? ⟨b, 3, none⟩ = some v3 ∧ w.cell? ⟨b, 4, none⟩ = some v4 ∧ w.cell? ⟨b, 5, none⟩ = some v5 ∧ w.cell? ⟨b, 6, none⟩ = some v6 ∧ w.cell? ⟨b, 7, none⟩ = some v7 := by
  obtain ⟨e0, e1, e2, e3, e4, e5, e6, e7⟩ := e
  exact ⟨kc k e0 h, kc k e1 h, kc k e2 h, kc k e3 h, kc k e4 h, kc k e5 h, kc k e6 h, kc k e7 h⟩

theorem g8 (b : Nat) (v0 v1 v2 v3 v4 v5 v6 v7 : Value) {R : Nat} {m w : World} (k : m.grownBy w (some R)) (e : m.cell? ⟨b, 0, none⟩ = some v0 ∧ m.cell? ⟨b, 1, none⟩ = some v1 ∧ m.cell? ⟨b, 2, none⟩ = some v2 ∧ m.cell? ⟨b, 3, none⟩ = some v3 ∧ m.cell? ⟨b, 4, none⟩ = some v4 ∧ m.cell? ⟨b, 5, none⟩ = some v5 ∧ m.cell? ⟨b, 6, none⟩ = some v6 ∧ m.cell? ⟨b, 7, none⟩ = some v7) (h : b < m.heap.size := by first | omega | (simp; done) | (simp; omega)) (hn : R ≠ b := by omega) : w.cell? ⟨b, 0, none⟩ = some v0 ∧ w.cell? ⟨b, 1, none⟩ = some v1 ∧ w.cell? ⟨b, 2, none⟩ = some v2 ∧ w.cell? ⟨b, 3, none⟩ = some v3 ∧ w.cell? ⟨b, 4, none⟩ = some v4 ∧ w.cell? ⟨b, 5, none⟩ = some v5 ∧ w.cell? ⟨b, 6, none⟩ = some v6 ∧ w.cell? ⟨b, 7, none⟩ = some v7 := by
  obtain ⟨e0, e1, e2, e3, e4, e5, e6, e7⟩ := e
  exact ⟨gc k e0 h hn, gc k e1 h hn, gc k e2 h hn, gc k e3 h hn, gc k e4 h hn, gc k e5 h hn, gc k e6 h hn, gc k e7 h hn⟩

theorem g9 (b : Nat) (v0 v1 v2 v3 v4 v5 v6 v7 v8 : Value) {R : Nat} {m w : World} (k : m.grownBy w (some R)) (e : m.cell? ⟨b, 0, none⟩ = some v0 ∧ m.cell? ⟨b, 1, none⟩ = some v1 ∧ m.cell? ⟨b, 2, none⟩ = some v2 ∧ m.cell? ⟨b, 3, none⟩ = some v3 ∧ m.cell? ⟨b, 4, none⟩ = some v4 ∧ m.cell? ⟨b, 5, none⟩ = some v5 ∧ m.cell? ⟨b, 6, none⟩ = some v6 ∧ m.cell? ⟨b, 7, none⟩ = some v7 ∧ m.cell? ⟨b, 8, none⟩ = some v8) (h : b < m.heap.size := by first | omega | (simp; done) | (simp; omega)) (hn : R ≠ b := by omega) : w.cell? ⟨b, 0, none⟩ = some v0 ∧ w.cell? ⟨b, 1, none⟩ = some v1 ∧ w.cell? ⟨b, 2, none⟩ = some v2 ∧ w.cell? ⟨b, 3, none⟩ = some v3 ∧ w.cell? ⟨b, 4, none⟩ = some v4 ∧ w.cell? ⟨b, 5, none⟩ = some v5 ∧ w.cell? ⟨b, 6, none⟩ = some v6 ∧ w.cell? ⟨b, 7, none⟩ = some v7 ∧ w.cell? ⟨b, 8, none⟩ = some v8 := by
  obtain ⟨e0, e1, e2, e3, e4, e5, e6, e7, e8⟩ := e
  exact ⟨gc k e0 h hn, gc k e1 h hn, gc k e2 h hn, gc k e3 h hn, gc k e4 h hn, gc k e5 h hn, gc k e6 h hn, gc k e7 h hn, gc k e8 h hn⟩

end Go.Proofs.Ytdbonlpkmncggaa

namespace Go.Proofs.Ytdbonlpkmncggaa
open Go.RowKit

theorem eiU8 : EI Try.prog 5 (.int .u8 0) 1 1 := .of (by kernel_rfl) rfl (by decide) (by decide)

set_option maxRecDepth 100000 in
set_option maxHeartbeats 1000000 in
theorem clone8_any (v : Value) (l : List Int) (w : World) (h : Ints .u8 w v l) (hl : l.length ≤ 1000000) :
    Calls Try.prog 64 #[v] w fun e w' => ∃ v', e = .returned v' ∧ w'.ownsRow w.heap.size 5 1 v' l.length (l.map (Value.int .u8)) ∧ Below w.heap.size w w' := by
  have q : ∀ (w : World) (a : Option Addr) (n c n' c' : Nat), (binOp .eql 55 (.slice a n c) (.slice none n' c')).run Try.prog w = .ok (.bool a.isNone) w := fun w a n c n' c' => Lib.run_eql_slice_nil w _ _ a n c n' c' Try.underlying55
  have HL := Lib.hid h
  obtain ⟨a, c, rfl, h1, h2, h3, h4⟩ := h
  rcases a with _ | ad
  · have hl0 : l = [] := by
      cases l with
      | nil => rfl
      | cons x l => obtain ⟨b, o, e, _⟩ := h4 0 x rfl; cases e
    subst hl0
    clear h4 HL
    go_enter Try.func64, Try.ntmps64
    go_wp2
    go_ret
    exact ⟨_, rfl, ⟨rfl, .inl ⟨rfl, rfl⟩⟩, Below.refl _ _⟩
  · clear h4
    go_enter Try.func64, Try.ntmps64
    have ho : (w.alloc (.cells #[] 5)).ownsRow w.heap.size 5 1 (.slice (some ⟨w.heap.size, 0, none⟩) 0 0) 0 [] := World.ownsRow_made w #[] 0 (Nat.le_refl _) (Nat.zero_le _) (by simp)
    have hb : Below w.heap.size w (w.alloc (.cells #[] 5)) := (Below.refl _ _).alloc (Nat.le_refl _) _
    have HO := Lib.hid ho; have HB := Lib.hid hb
    clear ho hb
    go_wp2_with (at_builtin; go_must (refine appInts rfl _ _ 55 rfl Try.underlying55 eiU8 w.heap.size (by rfl) HO.out (by rfl) (HL.out.below HB.out) (by omega) (by simp) ?_))
    intro v' w' hown b' _
    have HO' := Lib.hid hown
    have HB' := Lib.hid (HB.out.trans b')
    clear hown b'
    go_wp2
    go_ret
    exact ⟨_, rfl, by simpa using HO'.out, HB'.out⟩


set_option maxRecDepth 100000 in
theorem Ints.string {w : World} {a : Option Addr} {n c : Nat} {l : List Int} (h : Ints .u8 w (.slice a n c) l) :
    (convert 55 9 (.slice a n c)).run Try.prog w = .ok (.string (strOfNums l)) w := by
  obtain ⟨a', c', e, _, _, _, h4⟩ := h
  injection e with e1 e2 e3
  subst e1 e2 e3
  rcases Nat.eq_zero_or_pos l.length with h0 | h0
  · obtain rfl := List.eq_nil_of_length_eq_zero h0
    rw [run_convert_bytes_string w _ _ _ _ _ _ Try.underlying55 Try.underlying5 Try.underlying9]
    cases a <;> simp [Conv.bytesToString, loadCells]
    all_goals rfl
  · obtain ⟨x, hx⟩ := getElem?_ex h0
    obtain ⟨b, o, rfl, _, _⟩ := h4 0 x hx
    refine run_convert_bytes_arg w _ _ Try.underlying55 Try.underlying5 b o l.length _ l rfl (fun i hi => ?_) _ Try.underlying9
    obtain ⟨y, hy⟩ := getElem?_ex hi
    obtain ⟨b', o', e, _, hc⟩ := h4 i y hy
    cases e
    rw [hc]
    simp [List.getD, hy]

set_option maxRecDepth 100000 in
theorem same21_eq (va vb : Value) (l : List Int) (w : World) (ha : Ints .u8 w va l) (hb : Ints .u8 w vb l) :
    Calls Try.prog 33 #[va, vb] w fun e w' => e = .returned (.bool true) ∧ w = w' := by
  obtain ⟨a, c, rfl⟩ := ha.shape
  obtain ⟨b, d, rfl⟩ := hb.shape
  have h1 := ha.string
  have h2 := hb.string
  clear ha hb
  go_enter Try.func33, Try.ntmps33
  go_wp2
  go_ret
  simp

end Go.Proofs.Ytdbonlpkmncggaa

namespace Go.Proofs.Ytdbonlpkmncggaa

def upF : Nat → Nat → List Int
  | 0, _ => []
  | f + 1, n => if n = 0 then [] else upF f (n / 256) ++ [((n % 256 : Nat) : Int)]

/-- The digits of a number to the base 256, the greatest first. -/
def up (n : Nat) : List Int := upF 8 n

theorem upF_succ : ∀ (f n : Nat), n < 256 ^ f → upF (f + 1) n = upF f n := by
  intro f
  induction f with
  | zero => intro n h; have : n = 0 := by simpa using h
            subst this; simp [upF]
  | succ f ih =>
    intro n h
    by_cases h0 : n = 0
    · subst h0; simp [upF]
    · rw [upF, if_neg h0, ih (n / 256) (by rw [Nat.pow_succ] at h; exact Nat.div_lt_of_lt_mul (by rw [Nat.mul_comm]; exact h)), upF, if_neg h0]

theorem up_zero : up 0 = [] := rfl
theorem up_pos {n : Nat} (h : 0 < n) (hn : n < 18446744073709551616) : up n = up (n / 256) ++ [((n % 256 : Nat) : Int)] := by
  rw [up, upF, if_neg (by omega), up, upF_succ 7 (n / 256) (by show _ < 72057594037927936; omega)]

/-- The digits from the k-th on, the greatest first. -/
def down (n : Nat) : Nat → List Int
  | 0 => []
  | k + 1 => ((n / 256 ^ k % 256 : Nat) : Int) :: down n k

theorem down_snoc (n : Nat) : ∀ k, down n (k + 1) = down (n / 256) k ++ [((n % 256 : Nat) : Int)] := by
  intro k
  induction k with
  | zero => simp [down]
  | succ k ih =>
    rw [down, ih, down, List.cons_append, Nat.div_div_eq_div_mul, Nat.pow_succ, Nat.mul_comm]

theorem down_length (n : Nat) : ∀ k, (down n k).length = k := by
  intro k
  induction k with
  | zero => rfl
  | succ k ih => simp [down, ih]

theorem upF_down : ∀ (f n : Nat), upF f n = down n (upF f n).length := by
  intro f
  induction f with
  | zero => intro n; rfl
  | succ f ih =>
    intro n
    by_cases h0 : n = 0
    · subst h0; simp [upF, down]
    · rw [upF, if_neg h0, List.length_append, List.length_singleton, down_snoc, ← ih]

theorem up_down (n : Nat) : up n = down n (up n).length := upF_down 8 n

/-- The bytes of a number. -/
def putsU (n : Nat) : List Int := if n < 240 then [(n : Int)] else (239 + ((up n).length : Int)) :: up n

theorem upF_length : ∀ (f n : Nat), (upF f n).length ≤ f := by
  intro f
  induction f with
  | zero => intro n; simp [upF]
  | succ f ih =>
    intro n
    rw [upF]
    split
    · simp
    · have := ih (n / 256); simp; omega

theorem up_byte (n : Nat) : ∀ x ∈ up n, 0 ≤ x ∧ x ≤ 255 := by
  rw [up_down]
  generalize (up n).length = k
  induction k with
  | zero => intro x hx; simp [down] at hx
  | succ k ih =>
    intro x hx
    simp only [down, List.mem_cons] at hx
    rcases hx with rfl | hx
    · have := Nat.mod_lt (n / 256 ^ k) (show 0 < 256 by omega)
      generalize n / 256 ^ k % 256 = z at *
      omega
    · exact ih x hx

theorem up_bound : ∀ (f n : Nat), n < 256 ^ f → n < 18446744073709551616 → n < 256 ^ (up n).length ∧ (0 < n → 0 < (up n).length ∧ 256 ^ ((up n).length - 1) ≤ n) := by
  intro f
  induction f with
  | zero => intro n h _; have : n = 0 := by simpa using h
            subst this; simp [up_zero]
  | succ f ih =>
    intro n h hn
    rcases Nat.eq_zero_or_pos n with h0 | h0
    · subst h0; simp [up_zero]
    · have h1 : n / 256 < 256 ^ f := by rw [Nat.pow_succ] at h; exact Nat.div_lt_of_lt_mul (by rw [Nat.mul_comm]; exact h)
      obtain ⟨h2, h3⟩ := ih (n / 256) h1 (by omega)
      rw [up_pos h0 hn, List.length_append, List.length_singleton]
      rcases Nat.eq_zero_or_pos (n / 256) with h4 | h4
      · rw [h4, up_zero]
        simp
        omega
      · obtain ⟨h5, h6⟩ := h3 h4
        generalize (up (n / 256)).length = k at *
        obtain ⟨k, rfl⟩ : ∃ j, k = j + 1 := ⟨k - 1, by omega⟩
        rw [Nat.add_sub_cancel] at h6
        refine ⟨by rw [Nat.pow_succ]; omega, fun _ => ⟨by omega, ?_⟩⟩
        rw [Nat.add_sub_cancel, Nat.pow_succ]
        omega

theorem many_up {n : Nat} (h0 : 0 < n) (hn : n < 18446744073709551616) : (Lib.bitLen n + 7) / 8 = (up n).length := by
  obtain ⟨h1, h2⟩ := up_bound 8 n (by show _ < 18446744073709551616; exact hn) hn
  obtain ⟨h3, h4⟩ := h2 h0
  obtain ⟨g1, g2, g3⟩ := Lib.bitLenAux_bounds 64 n (by show _ < 18446744073709551616; exact hn) (by omega)
  have hb : Lib.bitLen n = Lib.bitLenAux 64 n := rfl
  rw [hb]
  generalize Lib.bitLenAux 64 n = B at *
  generalize (up n).length = k at *
  rw [show (256 : Nat) = 2 ^ 8 by rfl, ← Nat.pow_mul] at h1 h4
  have a1 : B - 1 < 8 * k := (Nat.pow_lt_pow_iff_right (a := 2) (by omega)).1 (Nat.lt_of_le_of_lt (by first | exact g1 | exact g2 | exact g3) h1)
  have a2 : 8 * (k - 1) < B := (Nat.pow_lt_pow_iff_right (a := 2) (by omega)).1 (Nat.lt_of_le_of_lt h4 (by first | exact g1 | exact g2 | exact g3))
  omega
end Go.Proofs.Ytdbonlpkmncggaa

namespace Go.Proofs.Ytdbonlpkmncggaa
open Go.RowKit

/-- A row of the call's own that holds these bytes. -/
def OwnB (w : World) (base : Nat) (v : Value) (l : List Int) : Prop := w.ownsRow base 5 1 v l.length (l.map (Value.int .u8))

theorem putsU_len {n : Nat} : (putsU n).length ≤ 9 := by
  unfold putsU
  split
  · simp
  · have := upF_length 8 n; simp [up]; omega

set_option maxRecDepth 100000 in
set_option maxHeartbeats 1000000 in
theorem putU_any (v : Value) (l : List Int) (n : Nat) (w : World) (h : Ints .u8 w v l) (hl : l.length ≤ 999990) (hn : (n : Int) ≤ 18446744073709551615) :
    Calls Try.prog 66 #[v, .int .u64 n] w fun e w' => ∃ v', e = .returned v' ∧ OwnB w' w.heap.size v' (l ++ putsU n) ∧ Below w.heap.size w w' := by
  have HC := Lib.hid (clone8_any v l w h (by omega))
  have hlen := h.shape
  clear h
  by_cases hs : (n : Int) < 240
  · have hp : putsU n = [(n : Int)] := if_pos (by omega)
    have h8 : IntKind.u8.wrap (n : Int) = (n : Int) := by unfold IntKind.wrap; simp [IntKind.signed, IntKind.bits]; omega
    rw [hp]
    clear hp
    go_enter Try.func66, Try.ntmps66
    go_wp2_with fail
    refine HC.out.mono ?_
    rintro e w1 ⟨v1, rfl, ho, hb⟩
    have HO := Lib.hid ho; have HB := Lib.hid hb
    clear ho hb
    go_wp2_with (at_builtin; go_must (refine app1 rfl _ _ 55 rfl Try.underlying55 eiU8 w.heap.size (by rfl) HO.out (by rfl) rfl (by simp [Value.oneCell']) (by omega) HB.out.size ?_))
    intro v' w' hown hb' _
    have HO' := Lib.hid hown; have HB' := Lib.hid (HB.out.trans hb')
    clear hown hb'
    go_wp2
    go_ret
    exact ⟨_, rfl, by have := HO'.out; simpa [OwnB] using this, HB'.out⟩
  · obtain ⟨k, hk⟩ : ∃ k, (up n).length = k := ⟨_, rfl⟩
    have hk8 : k ≤ 8 := hk ▸ upF_length 8 n
    have hmany := many_up (n := n) (by omega) (by omega)
    rw [hk] at hmany
    have hp : putsU n = (239 + (k : Int)) :: up n := by rw [putsU, if_neg (by omega), hk]
    have hud : up n = down n k := by rw [← hk]; exact up_down n
    rw [hp, hud]
    clear hp hud hk
    have hl64 := fun W => Try.bits_Len64 (n : Int) W (by omega) (by omega)
    simp only [Int.toNat_natCast] at hl64
    obtain ⟨B, hB⟩ : ∃ B, Lib.bitLen n = B := ⟨_, rfl⟩
    rw [hB] at hmany hl64
    clear hB
    have HL := Lib.hid hl64
    have HM := Lib.hid hmany
    have hB64 : B ≤ 64 := by omega
    clear hl64 hmany
    have hq : ((B : Int) + 7) / 8 = (k : Int) := by have := HM.out; omega
    have HQ := Lib.hid hq
    go_enter Try.func66, Try.ntmps66
    go_wp2_with fail
    refine HC.out.mono ?_
    rintro e w1 ⟨v1, rfl, ho, hb⟩
    have HO := Lib.hid ho; have HB := Lib.hid hb
    clear ho hb
    go_wp2_with (first | (go_at_call 95; refine (HL.out _).mono ?_; rintro e w' ⟨rfl, rfl⟩) | (at_builtin; go_must (refine app1 rfl _ _ 55 rfl Try.underlying55 eiU8 w.heap.size (by rfl) HO.out (by rfl) rfl (by simp [Value.oneCell']) (by omega) HB.out.size ?_)))
    intro v2 w2 ho2 hb2 _
    have h2 : OwnB w2 w.heap.size v2 (l ++ [239 + (k : Int)]) := by simpa [OwnB] using ho2
    have H2 := Lib.hid h2; have B2 := Lib.hid (HB.out.trans hb2)
    clear ho2 h2 hb2
    have hq := HQ.out
    go_wp2
    go_loopw [5, 7] (fun v i wr => ∃ (j : Nat) (done : List Int), j ≤ k ∧ i = .int .i64 ((j : Int) - 1) ∧ OwnB wr w.heap.size v done ∧ done ++ down n j = l ++ (239 + (k : Int)) :: down n k ∧ Below w.heap.size w wr) (fun _ i _ => (intOf i + 1).toNat)
    case atStart => exact ⟨k, _, Nat.le_refl _, rfl, H2.out, by simp, B2.out⟩
    case round =>
      obtain ⟨j, done, hj, rfl, ho, hd, hb⟩ := hrel
      have HD := Lib.hid hd; have HO3 := Lib.hid ho; have HB3 := Lib.hid hb
      clear hd ho hb
      rcases j with _ | m
      · rw [show (((0 : Nat) : Int) - 1) = -1 by rfl]
        go_wp2
        go_ret
        exact ⟨_, rfl, by have := HD.out; rw [down, List.append_nil] at this; rw [← this]; exact HO3.out, HB3.out⟩
      · rw [show (((m + 1 : Nat) : Int) - 1) = (m : Int) by omega]
        have hlen2 : done.length ≤ 1000000 := by
          have := congrArg List.length HD.out
          simp [down_length] at this
          omega
        have hbyte : (n : Int) / 2 ^ (8 * m) % 256 = ((n / 256 ^ m % 256 : Nat) : Int) := by
          rw [show (256 : Nat) ^ m = 2 ^ (8 * m) by rw [Nat.pow_mul]]; push_cast; rfl
        have HBY := Lib.hid hbyte
        clear hbyte
        go_wp2_with (at_builtin; go_must (refine app1 rfl _ _ 55 rfl Try.underlying55 eiU8 w.heap.size (by rfl) HO3.out (by rfl) rfl (by simp [Value.oneCell']) (by omega) HB3.out.size ?_))
        intro v4 w4 ho4 hb4 _
        have h4 : OwnB w4 w.heap.size v4 (done ++ [((n / 256 ^ m % 256 : Nat) : Int)]) := by rw [← HBY.out]; simpa [OwnB] using ho4
        have H4 := Lib.hid h4; have B4 := Lib.hid (HB3.out.trans hb4)
        clear ho4 h4 hb4
        go_wp2
        go_roundw
        case rel => exact ⟨m, _, by omega, by go_num, H4.out, by rw [← HD.out, down]; simp, B4.out⟩
        case measure => simp [intOf] <;> omega
end Go.Proofs.Ytdbonlpkmncggaa

namespace Go.Proofs.Ytdbonlpkmncggaa
open Go.RowKit

theorem own1 (w : World) (base : Nat) (x : Int) (hb : base ≤ w.heap.size) : (w.alloc (.cells #[.int .u8 x] 5)).ownsRow base 5 1 (.slice (some ⟨w.heap.size, 0, none⟩) 1 1) 1 [.int .u8 x] :=
  ⟨rfl, .inr ⟨w.heap.size, 1, _, rfl, hb, heap_alloc_new w _, Nat.le_refl _, by unfold maxLen; omega, rfl, rfl⟩⟩

set_option maxRecDepth 100000 in
set_option maxHeartbeats 1000000 in
theorem rU_any (n : Nat) (w : World) (hn : (n : Int) ≤ 18446744073709551615) :
    Calls Try.prog 68 #[.int .u64 n] w fun e w' => ∃ v', e = .returned v' ∧ OwnB w' w.heap.size v' (putsU n) ∧ Below w.heap.size w w' := by
  by_cases hs : (n : Int) < 240
  · have hp : putsU n = [(n : Int)] := if_pos (by omega)
    have h8 : IntKind.u8.wrap (n : Int) = (n : Int) := by unfold IntKind.wrap; simp [IntKind.signed, IntKind.bits]; omega
    rw [hp]
    clear hp
    go_enter Try.func68, Try.ntmps68
    go_wp2
    go_ret
    exact ⟨_, rfl, own1 w _ _ (Nat.le_refl _), (Below.refl _ _).alloc (Nat.le_refl _) _⟩
  · have hp : putsU n = (239 + ((up n).length : Int)) :: up n := if_neg (by omega)
    have hk8 : (up n).length ≤ 8 := upF_length 8 n
    have HP := Lib.hid hp
    clear hp
    go_enter Try.func68, Try.ntmps68
    go_wp2
    go_loopw [0, 3] (fun a v wr => ∃ (m : Nat) (D : List Int), a = .int .u64 m ∧ m ≤ n ∧ Ints .u8 wr v D ∧ up m ++ D = up n ∧ Below w.heap.size w wr) (fun a _ _ => (intOf a).toNat)
    case atStart => exact ⟨n, [], rfl, Nat.le_refl _, ⟨none, 0, rfl, by simp, by omega, by simp, fun i x h => by simp at h⟩, by simp, Below.refl _ _⟩
    case round =>
      obtain ⟨m, D, rfl, hm, hi, hd, hb⟩ := hrel
      have hD8 : D.length ≤ 8 := by
        have := congrArg List.length hd
        simp at this
        omega
      have HI := Lib.hid hi; have HD := Lib.hid hd; have HB := Lib.hid hb
      clear hi hd hb
      by_cases h0 : 0 < m
      · have ho := own1 wr w.heap.size ((m : Int) % 256) HB.out.size
        have ha : Below w.heap.size w (wr.alloc (.cells #[.int .u8 ((m : Int) % 256)] 5)) := HB.out.alloc HB.out.size _
        have hi : Ints .u8 (wr.alloc (.cells #[.int .u8 ((m : Int) % 256)] 5)) _ D := HI.out.below ((Below.refl _ _).alloc (Nat.le_refl _) _)
        have HO := Lib.hid ho; have HA := Lib.hid ha; have HI' := Lib.hid hi
        clear ho ha hi
        go_wp2_with (at_builtin; go_must (refine appInts rfl _ _ 55 rfl Try.underlying55 eiU8 w.heap.size (by rfl) HO.out (by rfl) HI'.out (by omega) HA.out.size ?_))
        intro v2 w2 ho2 hb2 _
        have h2 : Ints .u8 w2 v2 (((m % 256 : Nat) : Int) :: D) := (Ints.own (base := w.heap.size) (e := 5) (n := 1 + D.length) (by simpa using ho2) (by simp; omega)).2
        have H2 := Lib.hid h2; have B2 := Lib.hid (HA.out.trans hb2)
        clear ho2 h2 hb2
        go_wp2
        go_roundw
        case rel => exact ⟨m / 256, _, by go_num, by omega, H2.out, by rw [← HD.out, up_pos h0 (by omega)]; simp, B2.out⟩
        case measure => simp [intOf] <;> omega
      · obtain rfl : m = 0 := by omega
        have hd : D = up n := by have := HD.out; simpa [up_zero] using this
        obtain ⟨ad, c, rfl⟩ := HI.out.shape
        have ho := own1 wr w.heap.size (239 + (D.length : Int)) HB.out.size
        have ha : Below w.heap.size w (wr.alloc (.cells #[.int .u8 (239 + (D.length : Int))] 5)) := HB.out.alloc HB.out.size _
        have hi : Ints .u8 (wr.alloc (.cells #[.int .u8 (239 + (D.length : Int))] 5)) _ D := HI.out.below ((Below.refl _ _).alloc (Nat.le_refl _) _)
        have HO := Lib.hid ho; have HA := Lib.hid ha; have HI' := Lib.hid hi; have HDD := Lib.hid hd
        clear ho ha hi hd
        go_wp2_with (at_builtin; go_must (refine appInts rfl _ _ 55 rfl Try.underlying55 eiU8 w.heap.size (by rfl) HO.out (by rfl) HI'.out (by omega) HA.out.size ?_))
        intro v2 w2 ho2 hb2 _
        have h2 : OwnB w2 w.heap.size v2 (putsU n) := by
          rw [HP.out, ← HDD.out]
          unfold OwnB
          rw [List.length_cons, Nat.add_comm]
          simpa using ho2
        have H2 := Lib.hid h2; have B2 := Lib.hid (HA.out.trans hb2)
        clear ho2 h2 hb2
        go_wp2
        go_ret
        exact ⟨_, rfl, H2.out, B2.out⟩
end Go.Proofs.Ytdbonlpkmncggaa

namespace Go.Proofs.Ytdbonlpkmncggaa
open Go.RowKit

/-- A number with a sign as a number without. -/
def zig (i : Int) : Nat := if i < 0 then (2 * (-(i + 1)) + 1).toNat else (2 * i).toNat
def putsI (i : Int) : List Int := putsU (zig i)

theorem zig_lt {i : Int} (h : Ok64 i) : (zig i : Int) ≤ 18446744073709551615 := by unfold Ok64 at h; unfold zig; split <;> omega

set_option maxRecDepth 100000 in
set_option maxHeartbeats 1000000 in
theorem rI_any (i : Int) (w : World) (h : Ok64 i) :
    Calls Try.prog 69 #[.int .i64 i] w fun e w' => ∃ v', e = .returned v' ∧ OwnB w' w.heap.size v' (putsI i) ∧ Below w.heap.size w w' := by
  have HU := Lib.hid (rU_any (zig i) w (zig_lt h))
  unfold Ok64 at h
  by_cases h0 : i < 0
  · have hz : (zig i : Int) = 2 * (-(i + 1)) + 1 := by unfold zig; rw [if_pos h0]; omega
    have HZ := Lib.hid hz; clear hz
    go_enter Try.func69, Try.ntmps69
    go_wp2_with fail
    rw [← HZ.out]
    refine HU.out.mono ?_
    rintro e w1 ⟨v1, rfl, ho, hb⟩
    have HO := Lib.hid ho; have HB := Lib.hid hb
    clear ho hb
    go_wp2
    go_ret
    exact ⟨_, rfl, HO.out, HB.out⟩
  · have hz : (zig i : Int) = 2 * i := by unfold zig; rw [if_neg h0]; omega
    have HZ := Lib.hid hz; clear hz
    go_enter Try.func69, Try.ntmps69
    go_wp2_with fail
    rw [← HZ.out]
    refine HU.out.mono ?_
    rintro e w1 ⟨v1, rfl, ho, hb⟩
    have HO := Lib.hid ho; have HB := Lib.hid hb
    clear ho hb
    go_wp2
    go_ret
    exact ⟨_, rfl, HO.out, HB.out⟩

theorem xor_ones (a : Nat) (h : a < 18446744073709551616) : a ^^^ 18446744073709551615 = 18446744073709551615 - a := by
  have h1 : (BitVec.ofNat 64 a ^^^ BitVec.allOnes 64).toNat = (~~~ BitVec.ofNat 64 a).toNat := by rw [BitVec.xor_allOnes]
  rw [BitVec.toNat_xor, BitVec.toNat_not, BitVec.toNat_allOnes, BitVec.toNat_ofNat, Nat.mod_eq_of_lt (by simpa using h)] at h1
  simpa using h1

set_option maxRecDepth 100000 in
theorem xor_zig {i : Int} (h : -9223372036854775808 ≤ i ∧ i ≤ 9223372036854775807) :
    bits BinOp.xor IntKind.u64 (IntKind.u64.wrap (IntKind.u64.wrap i * 2)) (IntKind.u64.wrap (i / 9223372036854775808)) = (zig i : Int) := by
  by_cases h0 : i < 0
  · have e1 : IntKind.u64.wrap (i / 9223372036854775808) = 18446744073709551615 := by
      rw [show i / 9223372036854775808 = -1 by omega]; rfl
    have e2 : IntKind.u64.wrap (IntKind.u64.wrap i * 2) = 18446744073709551616 + 2 * i := by
      unfold IntKind.wrap; simp [IntKind.signed, IntKind.bits]; omega
    have hz : (zig i : Int) = 2 * (-(i + 1)) + 1 := by unfold zig; rw [if_pos h0]; omega
    rw [e1, e2, hz]
    obtain ⟨a, ha⟩ := Int.eq_ofNat_of_zero_le (show 0 ≤ 18446744073709551616 + 2 * i by omega)
    have h1 := bits_xor_u64_nat a 18446744073709551615 (by omega) (by omega)
    rw [xor_ones a (by omega)] at h1
    rw [ha]
    refine h1.trans ?_
    omega
  · have e1 : IntKind.u64.wrap (i / 9223372036854775808) = 0 := by
      rw [show i / 9223372036854775808 = 0 by omega]; rfl
    have e2 : IntKind.u64.wrap (IntKind.u64.wrap i * 2) = 2 * i := by
      unfold IntKind.wrap; simp [IntKind.signed, IntKind.bits]; omega
    have hz : (zig i : Int) = 2 * i := by unfold zig; rw [if_neg h0]; omega
    rw [e1, e2, hz]
    obtain ⟨a, ha⟩ := Int.eq_ofNat_of_zero_le (show 0 ≤ 2 * i by omega)
    have h1 := bits_xor_u64_nat a 0 (by omega) (by omega)
    rw [Nat.xor_zero] at h1
    rw [ha]
    exact h1

set_option maxRecDepth 100000 in
set_option maxHeartbeats 1000000 in
theorem putI_any (v : Value) (l : List Int) (i : Int) (w : World) (hv : Ints .u8 w v l) (hl : l.length ≤ 999990) (h : Ok64 i) :
    Calls Try.prog 67 #[v, .int .i64 i] w fun e w' => ∃ v', e = .returned v' ∧ OwnB w' w.heap.size v' (l ++ putsI i) ∧ Below w.heap.size w w' := by
  have HU := Lib.hid (putU_any v l (zig i) w hv hl (zig_lt h))
  unfold Ok64 at h
  go_enter Try.func67, Try.ntmps67
  go_wp2_with fail
  rw [xor_zig h]
  refine HU.out.mono ?_
  rintro e w1 ⟨v1, rfl, ho, hb⟩
  have HO := Lib.hid ho; have HB := Lib.hid hb
  clear ho hb
  go_wp2
  go_ret
  exact ⟨_, rfl, HO.out, HB.out⟩
end Go.Proofs.Ytdbonlpkmncggaa

namespace Go.Proofs.Ytdbonlpkmncggaa
open Go.RowKit

end Go.Proofs.Ytdbonlpkmncggaa

namespace Go.Proofs.Ytdbonlpkmncggaa
open Go.RowKit

def putsIs : List Int → List Int
  | [] => []
  | i :: l => putsI i ++ putsIs l
theorem putsIs_len : ∀ l : List Int, (putsIs l).length ≤ 9 * l.length := by
  intro l
  induction l with
  | nil => simp [putsIs]
  | cons i l ih => have := putsU_len (n := zig i); simp [putsIs, putsI]; omega

theorem OwnB.below {w w' : World} {base : Nat} {v : Value} {l : List Int} (h : OwnB w base v l) (hb : Below w.heap.size w w') : OwnB w' base v l := by
  have hlt := h.lt
  refine ⟨h.1, ?_⟩
  rcases h.2 with h1 | ⟨g, cap, cur, rfl, h2, h3, h4⟩
  · exact .inl h1
  · exact .inr ⟨g, cap, cur, rfl, h2, (hb.block g (hlt g rfl).2).trans h3, h4⟩

end Go.Proofs.Ytdbonlpkmncggaa

namespace Go.Proofs.Ytdbonlpkmncggaa

theorem snocInd {α : Type} {P : List α → Prop} (h0 : P []) (h1 : ∀ l x, P l → P (l ++ [x])) : ∀ l, P l := by
  have : ∀ l : List α, P l.reverse := by
    intro l
    induction l with
    | nil => exact h0
    | cons x l ih => rw [List.reverse_cons]; exact h1 _ _ ih
  intro l
  have h := this l.reverse
  rwa [List.reverse_reverse] at h

/-- Bytes as a number. -/
def numB (l : List Int) : Nat := l.foldl (fun n x => n * 256 + x.toNat) 0

def AllB (l : List Int) : Prop := ∀ x ∈ l, 0 ≤ x ∧ x ≤ 255

theorem numB_snoc (l : List Int) (x : Int) : numB (l ++ [x]) = numB l * 256 + x.toNat := by simp [numB]

theorem numB_lt (l : List Int) (h : AllB l) : numB l < 256 ^ l.length := by
  revert h
  refine snocInd (P := fun l => AllB l → numB l < 256 ^ l.length) ?_ ?_ l
  · intro _; simp [numB]
  · intro l x ih h
    have h1 := ih fun y hy => h y (by simp [hy])
    have h2 := h x (by simp)
    rw [numB_snoc, List.length_append, List.length_singleton, Nat.pow_succ]
    omega

theorem down_numB (l : List Int) (h : AllB l) : down (numB l) l.length = l := by
  revert h
  refine snocInd (P := fun l => AllB l → down (numB l) l.length = l) ?_ ?_ l
  · intro _; rfl
  · intro l x ih h
    have h1 := ih fun y hy => h y (by simp [hy])
    have h2 := h x (by simp)
    rw [numB_snoc, List.length_append, List.length_singleton, down_snoc]
    rw [show (numB l * 256 + x.toNat) / 256 = numB l by omega, h1]
    congr 2
    omega

theorem numB_down : ∀ (k n : Nat), n < 256 ^ k → numB (down n k) = n := by
  intro k
  induction k with
  | zero => intro n h; have : n = 0 := by simpa using h
            subst this; rfl
  | succ k ih =>
    intro n h
    rw [down_snoc, numB_snoc, ih (n / 256) (by rw [Nat.pow_succ] at h; exact Nat.div_lt_of_lt_mul (by rw [Nat.mul_comm]; exact h))]
    omega

theorem numB_up {n : Nat} (h : n < 18446744073709551616) : numB (up n) = n := by
  rw [up_down]
  exact numB_down _ n (up_bound 8 n (by show _ < 18446744073709551616; exact h) h).1

/-- Bytes are as few as may be just if the first one is not 0. -/
theorem up_numB {l : List Int} (h : AllB l) (hl : l.length ≤ 8) (h0 : 0 < l.length) : (up (numB l)).length = l.length ↔ l[0]? ≠ some 0 := by
  have hlt : numB l < 18446744073709551616 := Nat.lt_of_lt_of_le (numB_lt l h) (Nat.le_trans (Nat.pow_le_pow_right (by omega) hl) (by decide))
  obtain ⟨x, l', rfl⟩ : ∃ x l', l = x :: l' := by cases l with
    | nil => simp at h0
    | cons x l' => exact ⟨x, l', rfl⟩
  have hx := h x (by simp)
  have hb : numB (x :: l') = x.toNat * 256 ^ l'.length + numB l' := by
    clear hlt hx h hl h0
    refine snocInd (P := fun l' => numB (x :: l') = x.toNat * 256 ^ l'.length + numB l') ?_ ?_ l'
    · simp [numB]
    · intro l y ih
      rw [← List.cons_append, numB_snoc, ih, numB_snoc, List.length_append, List.length_singleton, Nat.pow_succ, Nat.add_mul, Nat.mul_assoc, Nat.add_assoc]
  have hl' := numB_lt l' fun y hy => h y (by simp [hy])
  obtain ⟨g1, g2⟩ := up_bound 8 (numB (x :: l')) (by show _ < 18446744073709551616; exact hlt) hlt
  constructor
  · intro he hc
    have hx0 : x = 0 := by simpa using hc
    rw [hx0] at hb he g2
    rcases Nat.eq_zero_or_pos (numB (0 :: l')) with hz | hz
    · rw [hz, up_zero] at he; simp at he
    · obtain ⟨_, g3⟩ := g2 hz
      rw [he, List.length_cons, Nat.add_sub_cancel] at g3
      simp at hb
      omega
  · intro hc
    have hx0 : 0 < x.toNat := by
      have : x ≠ 0 := fun e => hc (by simp [e])
      omega
    have hge : 256 ^ l'.length ≤ numB (x :: l') := by
      rw [hb]; exact Nat.le_trans (Nat.le_mul_of_pos_left _ hx0) (Nat.le_add_right _ _)
    have hup := numB_lt (x :: l') h
    obtain ⟨g3, g4⟩ := g2 (Nat.lt_of_lt_of_le (Nat.pow_pos (by omega)) hge)
    generalize (up (numB (x :: l'))).length = k at *
    obtain ⟨k, rfl⟩ : ∃ j, k = j + 1 := ⟨k - 1, by omega⟩
    rw [Nat.add_sub_cancel] at g4
    have a1 : l'.length < k + 1 := (Nat.pow_lt_pow_iff_right (a := 256) (by omega)).1 (Nat.lt_of_le_of_lt hge g1)
    have a2 : k < (x :: l').length := (Nat.pow_lt_pow_iff_right (a := 256) (by omega)).1 (Nat.lt_of_le_of_lt g4 hup)
    simp at a2 ⊢
    omega

/-- A number is read: it, the place behind it, how it failed. -/
def rdU (l : List Int) (a : Nat) : Nat × Nat × Int :=
  match l[a]? with
  | none => (0, a, 210)
  | some f => if f < 240 then (f.toNat, a + 1, 0) else if 247 < f then (0, a, 211)
    else if l.length < a + 1 + (f - 239).toNat then (0, a, 210)
    else if (putsU (numB ((l.drop (a + 1)).take (f - 239).toNat))).length = (f - 239).toNat + 1 then (numB ((l.drop (a + 1)).take (f - 239).toNat), a + 1 + (f - 239).toNat, 0) else (0, a, 211)

theorem rdU_bad (l : List Int) (a : Nat) (h : (rdU l a).2.2 ≠ 0) : (rdU l a).1 = 0 ∧ (rdU l a).2.1 = a := by
  unfold rdU at h ⊢
  split
  · exact ⟨rfl, rfl⟩
  · rename_i f hf
    rw [hf] at h
    simp only at h
    repeat' split at h
    all_goals first | (exfalso; exact h rfl) | (repeat' split) <;> first | exact ⟨rfl, rfl⟩ | omega

/-- A number that was put is read. -/
theorem rdU_puts (pre rest : List Int) (n : Nat) (h : n < 18446744073709551616) : rdU (pre ++ (putsU n ++ rest)) pre.length = (n, pre.length + (putsU n).length, 0) := by
  by_cases hs : n < 240
  · have hp : putsU n = [(n : Int)] := if_pos hs
    rw [hp]
    unfold rdU
    rw [List.getElem?_append_right (Nat.le_refl _), Nat.sub_self]
    simp only [List.cons_append, List.nil_append, List.getElem?_cons_zero]
    rw [if_pos (by omega)]
    simp
  · have hp : putsU n = (239 + ((up n).length : Int)) :: up n := if_neg hs
    obtain ⟨g1, g2⟩ := up_bound 8 n (by show _ < 18446744073709551616; exact h) h
    have g3 := (g2 (by omega)).1
    have g4 := upF_length 8 n
    have g5 : (up n).length ≤ 8 := g4
    have e0 : (pre ++ (putsU n ++ rest))[pre.length]? = some (239 + ((up n).length : Int)) := by
      rw [List.getElem?_append_right (Nat.le_refl _), Nat.sub_self, hp]; rfl
    have e1 : (239 + ((up n).length : Int) - 239).toNat = (up n).length := by omega
    have e2 : ((pre ++ (putsU n ++ rest)).drop (pre.length + 1)).take (up n).length = up n := by
      rw [← List.drop_drop, List.drop_left, hp]
      simp
    have e3 : (putsU n).length = (up n).length + 1 := by rw [hp]; rfl
    unfold rdU
    rw [e0]
    simp only
    rw [if_neg (by omega), if_neg (by omega), e1, if_neg (by simp [e3]; omega), e2, numB_up h, if_pos e3, e3]
    simp; omega

/-- What is read was put so. -/
theorem rdU_ok (l : List Int) (hb : AllB l) (a : Nat) (h : (rdU l a).2.2 = 0) :
    a < (rdU l a).2.1 ∧ (rdU l a).2.1 ≤ l.length ∧ (rdU l a).1 < 18446744073709551616 ∧ putsU (rdU l a).1 = (l.drop a).take ((rdU l a).2.1 - a) := by
  cases hf : l[a]? with
  | none => unfold rdU at h; rw [hf] at h; simp at h
  | some f =>
    have hfb := hb f (List.mem_of_getElem? hf)
    have hal : a < l.length := (List.getElem?_eq_some_iff.1 hf).1
    have hd : l.drop a = f :: l.drop (a + 1) := by
      rw [List.drop_eq_getElem_cons hal]
      congr 1
      rw [List.getElem?_eq_getElem hal] at hf
      exact Option.some.inj hf
    unfold rdU at h ⊢
    rw [hf] at h ⊢
    simp only at h ⊢
    by_cases h1 : f < 240
    · simp only [if_pos h1]
      refine ⟨by omega, by omega, by omega, ?_⟩
      rw [putsU, if_pos (by omega), hd, show a + 1 - a = 1 by omega]
      simp; omega
    · rw [if_neg h1] at h ⊢
      by_cases h2 : 247 < f
      · rw [if_pos h2] at h; simp at h
      · rw [if_neg h2] at h ⊢
        by_cases h3 : l.length < a + 1 + (f - 239).toNat
        · rw [if_pos h3] at h; simp at h
        · rw [if_neg h3] at h ⊢
          by_cases h4 : (putsU (numB ((l.drop (a + 1)).take (f - 239).toNat))).length = (f - 239).toNat + 1
          · simp only [if_pos h4]
            have hdl : ((l.drop (a + 1)).take (f - 239).toNat).length = (f - 239).toNat := by simp; omega
            have hdb : AllB ((l.drop (a + 1)).take (f - 239).toNat) := fun x hx => hb x (List.mem_of_mem_drop (List.mem_of_mem_take hx))
            have hlt := numB_lt _ hdb
            have hdn := down_numB _ hdb
            rw [hdl] at hlt hdn
            refine ⟨by omega, by omega, Nat.lt_of_lt_of_le hlt (Nat.le_trans (Nat.pow_le_pow_right (by omega) (show (f - 239).toNat ≤ 8 by omega)) (by decide)), ?_⟩
            have hbig : ¬ numB ((l.drop (a + 1)).take (f - 239).toNat) < 240 := by
              intro hc
              rw [putsU, if_pos hc] at h4
              simp at h4
              omega
            rw [putsU, if_neg hbig] at h4 ⊢
            have h5 : (up (numB ((l.drop (a + 1)).take (f - 239).toNat))).length = (f - 239).toNat := by simpa using h4
            rw [up_down, h5, hdn, hd, show a + 1 + (f - 239).toNat - a = (f - 239).toNat + 1 by omega, List.take_succ_cons]
            congr 1
            rw [hdl]
            omega
          · rw [if_neg h4] at h; simp at h

/-- The program's own test: as few bytes as may be. -/
theorem rdU_test {l : List Int} (hb : AllB l) (h : 0 < l.length) (hl : l.length ≤ 8) : (putsU (numB l)).length = l.length + 1 ↔ ¬ (l[0]? = some 0 ∨ numB l < 240) := by
  by_cases hc : numB l < 240
  · rw [putsU, if_pos hc]
    constructor
    · intro h1; have h2 : 1 = l.length + 1 := h1; omega
    · intro h1; exact absurd (.inr hc) h1
  · rw [putsU, if_neg hc, List.length_cons]
    have := up_numB hb hl h
    simp only [Nat.add_right_cancel_iff, hc, or_false]
    exact this

def unzig (n : Nat) : Int := if n % 2 = 1 then -((n / 2 : Nat) : Int) - 1 else ((n / 2 : Nat) : Int)
theorem unzig_zig (i : Int) : unzig (zig i) = i := by
  unfold zig unzig
  by_cases h : i < 0
  · rw [if_pos h, if_pos (by omega)]; omega
  · rw [if_neg h, if_neg (by omega)]; omega
theorem zig_unzig (n : Nat) : zig (unzig n) = n := by
  unfold zig unzig
  by_cases h : n % 2 = 1
  · rw [if_pos h, if_pos (by omega)]; omega
  · rw [if_neg h, if_neg (by omega)]; omega

/-- A number up to another one is read. -/
def rdN (l : List Int) (a : Nat) (most : Int) : Nat × Nat × Int :=
  if (rdU l a).2.2 ≠ 0 then (0, a, (rdU l a).2.2) else if most < 0 ∨ most < ((rdU l a).1 : Int) then (0, a, 211) else rdU l a
/-- A number with a sign is read. -/
def rdI (l : List Int) (a : Nat) : Int × Nat × Int := (unzig (rdU l a).1, (rdU l a).2.1, (rdU l a).2.2)
end Go.Proofs.Ytdbonlpkmncggaa

namespace Go.Proofs.Ytdbonlpkmncggaa
open Go.RowKit

/-- Block R is a reader of the bytes l (slice v), at place a, with error e. -/
def Rd (w : World) (R : Nat) (v : Value) (l : List Int) (a : Nat) (e : Int) : Prop :=
  w.heap[R]? = some (.cells #[v, .int .i64 a, .int .i64 e] 103 (0, 0)) ∧ Ints .u8 w v l

theorem Rd.cells {w : World} {R : Nat} {v : Value} {l : List Int} {a : Nat} {e : Int} (h : Rd w R v l a e) :
    w.cell? ⟨R, 0, none⟩ = some v ∧ w.cell? ⟨R, 1, none⟩ = some (.int .i64 a) ∧ w.cell? ⟨R, 2, none⟩ = some (.int .i64 e) ∧ w.frozen? ⟨R, 1, none⟩ = false ∧ w.frozen? ⟨R, 2, none⟩ = false := by
  have h1 := h.1
  refine ⟨?_, ?_, ?_, ?_, ?_⟩ <;> simp [World.cell?, World.frozen?, h1]

theorem Rd.lt {w : World} {R : Nat} {v : Value} {l : List Int} {a : Nat} {e : Int} (h : Rd w R v l a e) : R < w.heap.size := by
  rcases Nat.lt_or_ge R w.heap.size with hlt | hge
  · exact hlt
  · have h1 := h.1
    rw [Array.getElem?_eq_none hge] at h1; cases h1

/-- Bytes never lie in a reader's block. -/
theorem Ints.far_rd {w : World} {R b o : Nat} {v : Value} {l : List Int} {a : Nat} {e x : Int} (h : Rd w R v l a e) (hc : w.cell? ⟨b, o, none⟩ = some (.int .u8 x)) : b ≠ R := by
  rintro rfl
  have h1 := h.1
  obtain ⟨ad, c, rfl⟩ := h.2.shape
  simp [World.cell?, h1] at hc
  rcases o with _ | _ | _ | o <;> simp at hc

theorem Ints.only_rd {w w' : World} {R : Nat} {v v0 : Value} {l l0 : List Int} {a : Nat} {e : Int} (h : Rd w R v l a e) (hi : Ints .u8 w v0 l0) (hg : w.grownBy w' (some R)) : Ints .u8 w' v0 l0 := by
  obtain ⟨ad, c, rfl, h1, h2, h3, h4⟩ := hi
  refine ⟨ad, c, rfl, h1, h2, h3, fun i x hx => ?_⟩
  obtain ⟨b, o, rfl, hlt, hc⟩ := h4 i x hx
  have hne := Ints.far_rd h hc
  refine ⟨b, o, rfl, Nat.lt_of_lt_of_le hlt hg.size, ?_⟩
  exact (World.cell?_of_block (w := w) (a := ⟨b, o + i, none⟩) (hg.block b hlt (by simpa using hne))).trans hc

theorem Rd.below {w w' : World} {R : Nat} {v : Value} {l : List Int} {a : Nat} {e : Int} (h : Rd w R v l a e) (hb : Below w.heap.size w w') : Rd w' R v l a e :=
  ⟨(hb.block R h.lt).trans h.1, h.2.below hb⟩
theorem Rd.drewN {w : World} {R : Nat} {v : Value} {l : List Int} {a : Nat} {e : Int} (h : Rd w R v l a e) (n : Nat) : Rd (w.drewN n) R v l a e := h.below (below_drewN (Below.refl _ _) n)

theorem Rd.other {w w' : World} {R R' : Nat} {v v' : Value} {l l' : List Int} {a a' : Nat} {e e' : Int} (h : Rd w R v l a e) (h' : Rd w R' v' l' a' e') (hne : R ≠ R') (hg : w.grownBy w' (some R')) : Rd w' R v l a e :=
  ⟨(hg.block R h.lt (by simpa using hne)).trans h.1, Ints.only_rd h' h.2 hg⟩

theorem only_set (w : World) (R i : Nat) (u : Value) : w.grownBy (w.setCell ⟨R, i, none⟩ u) (some R) :=
  ⟨rfl, rfl, rfl, by simp [World.setCell], fun k _ hne => Below.heap_setCell w ⟨R, i, none⟩ u k (fun e => hne (by rw [e]))⟩
theorem only_drewN {a w : World} {row : Option Nat} (h : a.grownBy w row) (n : Nat) : a.grownBy (w.drewN n) row := ⟨h.os, h.tape, h.output, h.size, h.block⟩
theorem only_trans {a b c : World} {R : Nat} (h : a.grownBy b (some R)) (k : b.grownBy c (some R)) : a.grownBy c (some R) :=
  ⟨k.os.trans h.os, k.tape.trans h.tape, k.output.trans h.output, Nat.le_trans h.size k.size, fun i hi hne => (k.block i (Nat.lt_of_lt_of_le hi h.size) hne).trans (h.block i hi hne)⟩
theorem only_below {a w : World} {R : Nat} (h : Below a.heap.size a w) : a.grownBy w (some R) := ⟨h.os, h.tape, h.output, h.size, fun i hi _ => h.block i hi⟩
theorem only_refl (w : World) (R : Nat) : w.grownBy w (some R) := ⟨rfl, rfl, rfl, Nat.le_refl _, fun _ _ _ => rfl⟩
/-- What touches only a block of the call's own leaves all below as it was. -/
theorem below_only {B R : Nat} {w0 a w : World} (h0 : Below B w0 a) (h : a.grownBy w (some R)) (hB : B ≤ w0.heap.size) (hR : B ≤ R) : Below B w0 w :=
  ⟨h.os.trans h0.os, h.tape.trans h0.tape, h.output.trans h0.output, Nat.le_trans h0.size h.size, fun i hi => (h.block i (Nat.lt_of_lt_of_le hi (Nat.le_trans hB h0.size)) (by simp; omega)).trans (h0.block i hi)⟩

theorem Rd.set1 {w : World} {R : Nat} {v : Value} {l : List Int} {a : Nat} {e : Int} (h : Rd w R v l a e) (a' : Nat) : Rd (w.setCell ⟨R, 1, none⟩ (.int .i64 a')) R v l a' e := by
  refine ⟨?_, Ints.only_rd h h.2 (only_set w R 1 _)⟩
  have h1 := h.1
  simp [World.setCell, Array.getElem?_modify, h1]
theorem Rd.set2 {w : World} {R : Nat} {v : Value} {l : List Int} {a : Nat} {e : Int} (h : Rd w R v l a e) (e' : Int) : Rd (w.setCell ⟨R, 2, none⟩ (.int .i64 e')) R v l a e' := by
  refine ⟨?_, Ints.only_rd h h.2 (only_set w R 2 _)⟩
  have h1 := h.1
  simp [World.setCell, Array.getElem?_modify, h1]

theorem Rd.set1' {w : World} {R : Nat} {v : Value} {l : List Int} {a : Nat} {e : Int} (h : Rd w R v l a e) (a' : Nat) (z : Int) (hz : z = (a' : Int)) : Rd (w.setCell ⟨R, 1, none⟩ (.int .i64 z)) R v l a' e := by subst hz; exact h.set1 a'

/-- What a method does to its reader's block. -/
def RdTo (w : World) (R : Nat) (v : Value) (l : List Int) (w' : World) (a : Nat) (e : Int) : Prop := Rd w' R v l a e ∧ w.grownBy w' (some R)

theorem dead_no {w : World} {R : Nat} {v : Value} {l : List Int} {a : Nat} (h : Rd w R v l a 0) : Calls Try.prog 97 #[.pointer (some ⟨R, 0, none⟩)] w fun e w' => e = .returned (.bool false) ∧ w = w' := by
  obtain ⟨c0, c1, c2, f1, f2⟩ := h.cells
  clear h
  go_enter Try.func97, Try.ntmps97
  go_wp2
  go_ret
  exact ⟨rfl, rfl⟩

theorem dead_yes {w : World} {R : Nat} {v : Value} {l : List Int} {a : Nat} {e0 : Int} (h : Rd w R v l a e0) (he : e0 ≠ 0) : Calls Try.prog 97 #[.pointer (some ⟨R, 0, none⟩)] w fun e w' => e = .returned (.bool true) ∧ w = w' := by
  obtain ⟨c0, c1, c2, f1, f2⟩ := h.cells
  have hne : (e0 != 0) = true := by simpa using he
  clear h he
  go_enter Try.func97, Try.ntmps97
  go_wp2
  go_ret
  exact ⟨rfl, rfl⟩

theorem dead_nil (w : World) : Calls Try.prog 97 #[.pointer none] w fun e w' => e = .returned (.bool true) ∧ w = w' := by
  go_enter Try.func97, Try.ntmps97
  go_wp2
  go_ret
  exact ⟨rfl, rfl⟩

theorem back_rd {w : World} {R : Nat} {v : Value} {l : List Int} {a : Nat} {e0 : Int} (u : FrameMode) (a0 : Nat) (h : Rd w R v l a e0) :
    CallsD Try.prog 98 #[.pointer (some ⟨R, 0, none⟩), .int .i64 a0] u w fun e u' w' => u' = u ∧ (e = .returned (.tuple #[]) ∧ RdTo w R v l w' (if e0 = 0 then a else a0) e0) := by
  obtain ⟨c0, c1, c2, f1, f2⟩ := h.cells
  have H := Lib.hid h
  clear h
  by_cases he : e0 = 0
  · subst he
    have hf : Hid ((if (0 : Int) = 0 then a else a0) = a) := by simp [Hid]
    rw [hf.out]
    clear hf
    go_enter_d Try.func98, Try.ntmps98
    go_wp2
    go_end0
    exact ⟨rfl, H.out, only_refl _ _⟩
  · rw [if_neg he]
    have hne : (e0 != 0) = true := by simpa using he
    go_enter_d Try.func98, Try.ntmps98
    go_wp2
    go_end0
    exact ⟨rfl, H.out.set1 a0, only_set _ _ _ _⟩

set_option maxHeartbeats 800000 in
theorem take_short {w : World} {R : Nat} {v : Value} {l : List Int} {a : Nat} (h : Rd w R v l a 0) (ha : a ≤ l.length) (hl : l.length ≤ 100000) (n : Int) (hn : (l.length : Int) < a + n) :
    Calls Try.prog 114 #[.pointer (some ⟨R, 0, none⟩), .int .i64 n] w fun e w' => e = .returned (.slice none 0 0) ∧ RdTo w R v l w' a 210 := by
  have H := Lib.hid h
  obtain ⟨c0, c1, c2, f1, f2⟩ := h.cells
  obtain ⟨ad, c, rfl⟩ := h.2.shape
  clear h
  have hlt : (l.length : Int) - a < n := by omega
  go_enter Try.func114, Try.ntmps114
  go_wp2
  go_quiet (fail)
  go_wp2
  go_ret
  exact ⟨rfl, (H.out.drewN _).set2 210, only_trans (only_drewN (only_refl _ _) _) (only_set _ _ _ _)⟩

set_option maxHeartbeats 800000 in
theorem take_yes {w : World} {R : Nat} {v : Value} {l : List Int} {a n : Nat} (h : Rd w R v l a 0) (hl : l.length ≤ 100000) (hn : a + n ≤ l.length) :
    Calls Try.prog 114 #[.pointer (some ⟨R, 0, none⟩), .int .i64 n] w fun e w' => ∃ v', e = .returned v' ∧ Ints .u8 w' v' ((l.drop a).take n) ∧ RdTo w R v l w' (a + n) 0 := by
  have H := Lib.hid h
  obtain ⟨c0, c1, c2, f1, f2⟩ := h.cells
  obtain ⟨ad, c, rfl, g1, g2, g3, _⟩ := h.2
  clear h
  have hlt : ¬ (l.length : Int) - a < n := by omega
  have hd : c = a ∨ ¬ c = a := by omega
  rcases hd with hca | hca
  · subst hca
    go_enter Try.func114, Try.ntmps114
    go_wp2
    go_quiet (fail)
    go_wp2
    go_quiet (fail)
    go_wp2
    go_ret
    have hn0 : n = 0 := by omega
    refine ⟨_, rfl, by (subst hn0; simp; exact ints_nil _ _ _ _ (by omega)), (((H.out.drewN _).set1' (c + n) ((c : Int) + n) (by omega)).drewN _), only_drewN (only_trans (only_drewN (only_refl _ _) _) (only_set _ _ _ _)) _⟩
  · go_enter Try.func114, Try.ntmps114
    go_wp2
    go_quiet (fail)
    go_wp2
    go_quiet (fail)
    go_wp2
    go_ret
    have hI := fun d => (((H.out.drewN d).set1' (a + n)) ((a : Int) + n) (by omega)).2
    refine ⟨_, rfl, (((hI _).cutAt (i := a) (m := n) (by omega) (c - a) (by omega) (by omega) (fun hm b o e => ?_)).len (by omega)).drewN _, (((H.out.drewN _).set1' (a + n) ((a : Int) + n) (by omega)).drewN _), only_drewN (only_trans (only_drewN (only_refl _ _) _) (only_set _ _ _ _)) _⟩
    first | (subst e; simp [Addr.add]) | (cases e; rfl)
end Go.Proofs.Ytdbonlpkmncggaa

namespace Go.Proofs.Ytdbonlpkmncggaa
open Go.RowKit

theorem one_of {l : List Int} {a : Nat} {f : Int} (h : l[a]? = some f) : (l.drop a).take 1 = [f] := by
  have hal : a < l.length := (List.getElem?_eq_some_iff.1 h).1
  rw [List.drop_eq_getElem_cons hal]
  rw [List.getElem?_eq_getElem hal] at h
  rw [List.take_succ_cons, List.take_zero, Option.some.inj h]

theorem Ints.one {k : IntKind} {w : World} {v : Value} {f : Int} (h : Ints k w v [f]) : ∃ b o c, v = .slice (some ⟨b, o, none⟩) 1 c ∧ w.cell? ⟨b, o, none⟩ = some (.int k f) ∧ b < w.heap.size := by
  obtain ⟨a, c, rfl, _, _, _, h4⟩ := h
  obtain ⟨b, o, rfl, hlt, hc⟩ := h4 0 f rfl
  exact ⟨b, o, c, rfl, hc, hlt⟩

theorem or_byte {n : Nat} {x : Int} (hn : n < 72057594037927936) (hx : 0 ≤ x ∧ x ≤ 255) : Value.int .u64 (bits BinOp.or IntKind.u64 ((n : Int) * 256) x) = Value.int .u64 ((n * 256 + x.toNat : Nat) : Int) := by
  obtain ⟨y, rfl⟩ := Int.eq_ofNat_of_zero_le hx.1
  have h1 := bits_or_u64_nat (n * 256) y (by omega) (by omega)
  rw [show ((n : Int) * 256) = ((n * 256 : Nat) : Int) by omega, h1]
  have h2 := Nat.two_pow_add_eq_or_of_lt (i := 8) (b := y) (by omega) n
  rw [show n * 256 = 2 ^ 8 * n by omega, ← h2, Int.toNat_natCast]

/-- What a method that reads a number does. -/
def RdU (w : World) (R : Nat) (v : Value) (l : List Int) (r : Nat × Nat × Int) (e : Ending) (w' : World) : Prop := e = .returned (.int .u64 (r.1 : Int)) ∧ RdTo w R v l w' r.2.1 r.2.2

theorem RdTo.trans {w w1 w2 : World} {R : Nat} {v : Value} {l : List Int} {a a' : Nat} {e e' : Int} (h : RdTo w R v l w1 a e) (k : RdTo w1 R v l w2 a' e') : RdTo w R v l w2 a' e' := ⟨k.1, only_trans h.2 k.2⟩

set_option maxRecDepth 100000 in
set_option maxHeartbeats 2000000 in
theorem readU_any {w : World} {R : Nat} {v : Value} {l : List Int} {a : Nat} (h : Rd w R v l a 0) (hb : AllB l) (ha : a ≤ l.length) (hl : l.length ≤ 100000) :
    Calls Try.prog 99 #[.pointer (some ⟨R, 0, none⟩)] w fun e w' => RdU w R v l (rdU l a) e w' := by
  have H := Lib.hid h
  obtain ⟨c0, c1, c2, f1, f2⟩ := h.cells
  clear h
  cases hf : l[a]? with
  | none =>
    have hr : rdU l a = (0, a, 210) := by unfold rdU; rw [hf]
    rw [hr]
    have hal : l.length ≤ a := by
      rcases Nat.lt_or_ge a l.length with hlt | hge
      · rw [List.getElem?_eq_getElem hlt] at hf; cases hf
      · exact hge
    clear hr hf
    go_enter_defers Try.func99, Try.ntmps99
    go_wp2_with fail
    refine (dead_no H.out).mono ?_
    rintro e w1 ⟨rfl, rfl⟩
    go_wp2_with fail
    refine (take_short H.out ha hl 1 (by omega)).mono ?_
    rintro e w1 ⟨rfl, h1⟩
    have H1 := Lib.hid h1
    clear h1
    go_wp2_with fail
    refine (dead_yes H1.out.1 (by omega)).mono ?_
    rintro e w2 ⟨rfl, rfl⟩
    go_wp2
    refine leaves_cons (f := 98) (args := #[.pointer (some ⟨R, 0, none⟩), .int .i64 a]) (by simp) (by simp [go_sem]) ?_
    refine (back_rd .returning a H1.out.1).mono ?_
    rintro e u' w'' ⟨rfl, rfl, h2⟩
    exact ⟨_, results_tmp rfl _ _ _, rfl, H1.out.trans h2⟩
  | some f =>
    have hal : a < l.length := (List.getElem?_eq_some_iff.1 hf).1
    have hfb := hb f (List.mem_of_getElem? hf)
    have h1f := one_of hf
    have HT := Lib.hid (take_yes (n := 1) H.out hl (by omega))
    rw [h1f] at HT
    clear h1f
    by_cases hs : f < 240
    · have hr : rdU l a = (f.toNat, a + 1, 0) := by unfold rdU; rw [hf]; simp only [if_pos hs]
      rw [hr]
      clear hr hf
      obtain ⟨k, rfl⟩ := Int.eq_ofNat_of_zero_le hfb.1
      rw [Int.toNat_natCast]
      go_enter_defers Try.func99, Try.ntmps99
      go_wp2_with fail
      refine (dead_no H.out).mono ?_
      rintro e w1 ⟨rfl, rfl⟩
      go_wp2_with fail
      refine HT.out.mono ?_
      rintro e w1 ⟨v1, rfl, hi, h1⟩
      obtain ⟨b, o, c, rfl, hc, hlt⟩ := hi.one
      have H1 := Lib.hid h1
      clear h1 hi
      go_wp2_with fail
      refine (dead_no H1.out.1).mono ?_
      rintro e w2 ⟨rfl, rfl⟩
      go_wp2
      refine leaves_cons (f := 98) (args := #[.pointer (some ⟨R, 0, none⟩), .int .i64 a]) (by simp) (by simp [go_sem]) ?_
      refine (back_rd .returning a H1.out.1).mono ?_
      rintro e u' w'' ⟨rfl, rfl, h2⟩
      exact ⟨_, results_tmp rfl _ _ _, rfl, H1.out.trans h2⟩
    · obtain ⟨k, rfl⟩ := Int.eq_ofNat_of_zero_le hfb.1
      by_cases h247 : (247 : Int) < k
      · have hr : rdU l a = (0, a, 211) := by unfold rdU; rw [hf]; simp only [if_neg hs, if_pos h247]
        rw [hr]
        clear hr hf
        go_enter_defers Try.func99, Try.ntmps99
        go_wp2_with fail
        refine (dead_no H.out).mono ?_
        rintro e w1 ⟨rfl, rfl⟩
        go_wp2_with fail
        refine HT.out.mono ?_
        rintro e w1 ⟨v1, rfl, hi, h1⟩
        obtain ⟨b, o, c, rfl, hc, hlt⟩ := hi.one
        obtain ⟨d0, d1, d2, g1, g2⟩ := h1.1.cells
        have H1 := Lib.hid h1
        clear h1 hi
        go_wp2_with fail
        refine (dead_no H1.out.1).mono ?_
        rintro e w2 ⟨rfl, rfl⟩
        go_wp2
        refine leaves_cons (f := 98) (args := #[.pointer (some ⟨R, 0, none⟩), .int .i64 a]) (by simp) (by simp [go_sem]) ?_
        have h2 := H1.out.1.set2 211
        refine (back_rd .returning a h2).mono ?_
        rintro e u' w'' ⟨rfl, rfl, h3⟩
        exact ⟨_, results_tmp rfl _ _ _, rfl, RdTo.trans ⟨h2, only_trans H1.out.2 (only_set _ _ _ _)⟩ h3⟩
      · obtain ⟨m, rfl⟩ : ∃ m, k = 239 + m := ⟨k - 239, by omega⟩
        have hm : ((239 + m : Nat) : Int) - 239 = m := by omega
        have hr : rdU l a = if l.length < a + 1 + m then (0, a, 210) else if (putsU (numB ((l.drop (a + 1)).take m))).length = m + 1 then (numB ((l.drop (a + 1)).take m), a + 1 + m, 0) else (0, a, 211) := by
          unfold rdU; rw [hf]; simp only [if_neg hs, if_neg h247, hm, Int.toNat_natCast]
        rw [hr]
        clear hr hf hm
        by_cases hsh : l.length < a + 1 + m
        · rw [if_pos hsh]
          go_enter_defers Try.func99, Try.ntmps99
          go_wp2_with fail
          refine (dead_no H.out).mono ?_
          rintro e w1 ⟨rfl, rfl⟩
          go_wp2_with fail
          refine HT.out.mono ?_
          rintro e w1 ⟨v1, rfl, hi, h1⟩
          obtain ⟨b, o, c, rfl, hc, hlt⟩ := hi.one
          have H1 := Lib.hid h1
          clear h1 hi
          go_wp2_with fail
          refine (dead_no H1.out.1).mono ?_
          rintro e w2 ⟨rfl, rfl⟩
          go_wp2_with fail
          refine (take_short H1.out.1 (by omega) hl _ (by omega)).mono ?_
          rintro e w2 ⟨rfl, h2⟩
          have H2 := Lib.hid (H1.out.trans h2)
          clear h2
          go_wp2_with fail
          go_loop [4, 44] (fun n i => n = .int .u64 0 ∧ i = .int .i64 0) (fun _ _ => 0)
          case atStart => exact ⟨rfl, rfl⟩
          case round =>
            obtain ⟨rfl, rfl⟩ := hrel
            go_wp2_with fail
            refine (dead_yes H2.out.1 (by omega)).mono ?_
            rintro e w3 ⟨rfl, rfl⟩
            go_wp2_with fail
            refine (dead_yes H2.out.1 (by omega)).mono ?_
            rintro e w3 ⟨rfl, rfl⟩
            go_wp2
            refine leaves_cons (f := 98) (args := #[.pointer (some ⟨R, 0, none⟩), .int .i64 a]) (by simp) (by simp [go_sem]) ?_
            refine (back_rd .returning a H2.out.1).mono ?_
            rintro e u' w'' ⟨rfl, rfl, h3⟩
            exact ⟨_, results_tmp rfl _ _ _, rfl, H2.out.trans h3⟩
        · rw [if_neg hsh]
          obtain ⟨r, hr⟩ : ∃ r, (if (putsU (numB ((l.drop (a + 1)).take m))).length = m + 1 then (numB ((l.drop (a + 1)).take m), a + 1 + m, (0 : Int)) else (0, a, 211)) = r := ⟨_, rfl⟩
          rw [hr]
          have hdl : ((l.drop (a + 1)).take m).length = m := by simp; omega
          have hdb : AllB ((l.drop (a + 1)).take m) := fun x hx => hb x (List.mem_of_mem_drop (List.mem_of_mem_take hx))
          generalize hDD : (l.drop (a + 1)).take m = D at *
          have hm1 : 1 ≤ m := by omega
          have hm8 : m ≤ 8 := by omega
          obtain ⟨x0, hx0⟩ := getElem?_ex (l := D) (k := 0) (by omega)
          have hx0b := hdb x0 (List.mem_of_getElem? hx0)
          have htest := rdU_test hdb (by omega) (by omega)
          rw [hdl, hx0] at htest
          have hT2 : ∀ w1, RdTo w R v l w1 (a + 1) 0 → Calls Try.prog 114 #[.pointer (some ⟨R, 0, none⟩), .int .i64 (m : Int)] w1 fun e w' => ∃ v', e = .returned v' ∧ Ints .u8 w' v' D ∧ RdTo w1 R v l w' (a + 1 + m) 0 := fun w1 h1 => by
            have := take_yes (n := m) h1.1 hl (by omega)
            rwa [hDD] at this
          have HT2 := Lib.hid hT2
          have HTT := Lib.hid htest
          have HR := Lib.hid hr
          have HX0 := Lib.hid hx0
          have HDL := Lib.hid hdl
          have HDB := Lib.hid hdb
          clear hT2 htest hx0 hdl hdb hDD hr
          go_enter_defers Try.func99, Try.ntmps99
          go_wp2_with fail
          refine (dead_no H.out).mono ?_
          rintro e w1 ⟨rfl, rfl⟩
          go_wp2_with fail
          refine HT.out.mono ?_
          rintro e w1 ⟨v1, rfl, hi, h1⟩
          obtain ⟨b, o, c, rfl, hc, hlt⟩ := hi.one
          have H1 := Lib.hid h1
          clear h1 hi
          go_wp2_with fail
          refine (dead_no H1.out.1).mono ?_
          rintro e w2 ⟨rfl, rfl⟩
          go_wp2_with fail
          rw [show (239 + (m : Int) - 240 + 1) = m by omega]
          refine (HT2.out w1 H1.out).mono ?_
          rintro e w2 ⟨v2, rfl, hi2, h2⟩
          have H2 := Lib.hid (H1.out.trans h2)
          obtain ⟨ad2, c2', rfl, e1, e2, e3, hcell⟩ := hi2
          rw [HDL.out] at e1 e3 ⊢
          have HC := Lib.hid hcell
          clear h2 hcell
          go_wp2_with fail
          go_loop [4, 44] (fun n i => ∃ k : Nat, k ≤ m ∧ i = .int .i64 k ∧ n = .int .u64 (numB (D.take k) : Int)) (fun _ i => m - (intOf i).toNat)
          case atStart => exact ⟨0, Nat.zero_le _, rfl, rfl⟩
          case round =>
            obtain ⟨k, hk, rfl, rfl⟩ := hrel
            by_cases hlt' : k < m
            · obtain ⟨x, hx⟩ := getElem?_ex (l := D) (k := k) (by rw [HDL.out]; exact hlt')
              have hxb := HDB.out x (List.mem_of_getElem? hx)
              obtain ⟨b2, o2, rfl, hlt2, hc2⟩ := HC.out k x hx
              have hstep : numB (D.take (k + 1)) = numB (D.take k) * 256 + x.toNat := by rw [take_snoc' hx, numB_snoc]
              have hNk : numB (D.take k) < 72057594037927936 := by
                have h1 := numB_lt (D.take k) fun y hy => HDB.out y (List.mem_of_mem_take hy)
                have h2 : (D.take k).length ≤ 7 := by simp; omega
                exact Nat.lt_of_lt_of_le h1 (Nat.le_trans (Nat.pow_le_pow_right (by omega) h2) (by decide))
              have HS := Lib.hid hstep
              clear hstep hx
              go_wp2
              go_round
              case rel => exact ⟨k + 1, by omega, by go_num, by rw [HS.out]; exact or_byte hNk hxb⟩
              case measure => simp [intOf]; omega
            · obtain rfl : k = m := by omega
              have hfull : numB (D.take k) = numB D := by rw [List.take_of_length_le (by rw [HDL.out]; exact Nat.le_refl _)]
              rw [hfull]
              obtain ⟨b2, o2, rfl, hlt2, hc2⟩ := HC.out 0 x0 HX0.out
              rw [Nat.add_zero] at hc2
              clear hfull
              obtain ⟨d0, d1, d2, g1, g2⟩ := H2.out.1.cells
              by_cases hz : x0 = 0
              · subst hz
                have hno : ¬ (putsU (numB D)).length = k + 1 := fun hc => HTT.out.1 hc (.inl rfl)
                have HN := Lib.hid hno
                clear hno
                go_wp2_with fail
                refine (dead_no H2.out.1).mono ?_
                rintro e w3 ⟨rfl, rfl⟩
                go_wp2_with fail
                refine (dead_yes (H2.out.1.set2 211) (by omega)).mono ?_
                rintro e w3 ⟨rfl, rfl⟩
                go_wp2
                refine leaves_cons (f := 98) (args := #[.pointer (some ⟨R, 0, none⟩), .int .i64 a]) (by simp) (by simp [go_sem]) ?_
                refine (back_rd .returning a (H2.out.1.set2 211)).mono ?_
                rintro e u' w'' ⟨rfl, rfl, h3⟩
                have hr := HR.out
                rw [if_neg HN.out] at hr
                subst hr
                exact ⟨_, results_tmp rfl _ _ _, rfl, RdTo.trans ⟨H2.out.1.set2 211, only_trans H2.out.2 (only_set _ _ _ _)⟩ h3⟩
              · have hzb : (x0 == 0) = false := by simpa using hz
                by_cases hlow : numB D < 240
                · have hno : ¬ (putsU (numB D)).length = k + 1 := fun hc => HTT.out.1 hc (.inr hlow)
                  have HN := Lib.hid hno
                  have hlow' : (numB D : Int) < 240 := by omega
                  clear hno
                  go_wp2_with fail
                  refine (dead_no H2.out.1).mono ?_
                  rintro e w3 ⟨rfl, rfl⟩
                  go_wp2_with fail
                  refine (dead_yes (H2.out.1.set2 211) (by omega)).mono ?_
                  rintro e w3 ⟨rfl, rfl⟩
                  go_wp2
                  refine leaves_cons (f := 98) (args := #[.pointer (some ⟨R, 0, none⟩), .int .i64 a]) (by simp) (by simp [go_sem]) ?_
                  refine (back_rd .returning a (H2.out.1.set2 211)).mono ?_
                  rintro e u' w'' ⟨rfl, rfl, h3⟩
                  have hr := HR.out
                  rw [if_neg HN.out] at hr
                  subst hr
                  exact ⟨_, results_tmp rfl _ _ _, rfl, RdTo.trans ⟨H2.out.1.set2 211, only_trans H2.out.2 (only_set _ _ _ _)⟩ h3⟩
                · have hyes : (putsU (numB D)).length = k + 1 := HTT.out.2 (by rintro (h | h); exact hz (by simpa using h); exact hlow h)
                  have HY := Lib.hid hyes
                  have hlow' : ¬ (numB D : Int) < 240 := by omega
                  clear hyes
                  go_wp2_with fail
                  refine (dead_no H2.out.1).mono ?_
                  rintro e w3 ⟨rfl, rfl⟩
                  go_wp2_with fail
                  refine (dead_no H2.out.1).mono ?_
                  rintro e w3 ⟨rfl, rfl⟩
                  go_wp2
                  refine leaves_cons (f := 98) (args := #[.pointer (some ⟨R, 0, none⟩), .int .i64 a]) (by simp) (by simp [go_sem]) ?_
                  refine (back_rd .returning a H2.out.1).mono ?_
                  rintro e u' w'' ⟨rfl, rfl, h3⟩
                  have hr := HR.out
                  rw [if_pos HY.out] at hr
                  subst hr
                  exact ⟨_, results_tmp rfl _ _ _, rfl, H2.out.trans h3⟩
end Go.Proofs.Ytdbonlpkmncggaa

namespace Go.Proofs.Ytdbonlpkmncggaa
open Go.RowKit

end Go.Proofs.Ytdbonlpkmncggaa

namespace Go.Proofs.Ytdbonlpkmncggaa
open Go.RowKit

set_option maxRecDepth 100000 in
set_option maxHeartbeats 2000000 in
theorem readN_any {w : World} {R : Nat} {v : Value} {l : List Int} {a : Nat} (h : Rd w R v l a 0) (hb : AllB l) (ha : a ≤ l.length) (hl : l.length ≤ 100000) (most : Int) (hm : Ok64 most) :
    Calls Try.prog 72 #[.pointer (some ⟨R, 0, none⟩), .int .i64 most] w fun e w' => e = .returned (.int .i64 ((rdN l a most).1 : Int)) ∧ RdTo w R v l w' (rdN l a most).2.1 (rdN l a most).2.2 := by
  have HU := Lib.hid (readU_any h hb ha hl)
  have H := Lib.hid h
  obtain ⟨c0, c1, c2, f1, f2⟩ := h.cells
  have hbad := rdU_bad l a
  have hok := fun h => (rdU_ok l hb a h).2.2.1
  unfold rdN
  generalize rdU l a = r at *
  obtain ⟨n, a', e'⟩ := r
  simp only at hbad hok HU ⊢
  clear h
  unfold Ok64 at hm
  by_cases he : e' = 0
  · subst he
    have hn := hok rfl
    rw [if_neg (by omega)]
    clear hok hbad
    by_cases hmost : most < 0 ∨ most < (n : Int)
    · rw [if_pos hmost]
      have hc : most < 0 ∨ (¬ most < 0 ∧ most < (n : Int)) := by omega
      clear hmost
      rcases hc with hc | ⟨hc, hc2⟩
      all_goals
        go_enter_defers Try.func72, Try.ntmps72
        go_wp2_with fail
        refine (dead_no H.out).mono ?_
        rintro e w1 ⟨rfl, rfl⟩
        go_wp2_with fail
        refine HU.out.mono ?_
        rintro e w1 ⟨rfl, h1⟩
        obtain ⟨d0, d1, d2, g1, g2⟩ := h1.1.cells
        have H1 := Lib.hid h1
        clear h1
        go_wp2_with fail
        refine (dead_no H1.out.1).mono ?_
        rintro e w2 ⟨rfl, rfl⟩
        go_wp2_with fail
        refine (dead_yes (H1.out.1.set2 211) (by omega)).mono ?_
        rintro e w3 ⟨rfl, rfl⟩
        go_wp2
        refine leaves_cons (f := 98) (args := #[.pointer (some ⟨R, 0, none⟩), .int .i64 a]) (by simp) (by simp [go_sem]) ?_
        refine (back_rd .returning a (H1.out.1.set2 211)).mono ?_
        rintro e u' w'' ⟨rfl, rfl, h3⟩
        exact ⟨_, results_tmp rfl _ _ _, rfl, RdTo.trans ⟨H1.out.1.set2 211, only_trans H1.out.2 (only_set _ _ _ _)⟩ h3⟩
    · rw [if_neg hmost]
      obtain ⟨hm0, hm1⟩ : ¬ most < 0 ∧ ¬ most < (n : Int) := by omega
      have hn64 : (n : Int) ≤ 9223372036854775807 := by omega
      clear hmost
      go_enter_defers Try.func72, Try.ntmps72
      go_wp2_with fail
      refine (dead_no H.out).mono ?_
      rintro e w1 ⟨rfl, rfl⟩
      go_wp2_with fail
      refine HU.out.mono ?_
      rintro e w1 ⟨rfl, h1⟩
      obtain ⟨d0, d1, d2, g1, g2⟩ := h1.1.cells
      have H1 := Lib.hid h1
      clear h1
      go_wp2_with fail
      refine (dead_no H1.out.1).mono ?_
      rintro e w2 ⟨rfl, rfl⟩
      go_wp2_with fail
      refine (dead_no H1.out.1).mono ?_
      rintro e w3 ⟨rfl, rfl⟩
      go_wp2
      refine leaves_cons (f := 98) (args := #[.pointer (some ⟨R, 0, none⟩), .int .i64 a]) (by simp) (by simp [go_sem]) ?_
      refine (back_rd .returning a H1.out.1).mono ?_
      rintro e u' w'' ⟨rfl, rfl, h3⟩
      exact ⟨_, results_tmp rfl _ _ _, rfl, H1.out.trans h3⟩
  · obtain ⟨rfl, rfl⟩ := hbad he
    rw [if_pos he]
    clear hok hbad
    go_enter_defers Try.func72, Try.ntmps72
    go_wp2_with fail
    refine (dead_no H.out).mono ?_
    rintro e w1 ⟨rfl, rfl⟩
    go_wp2_with fail
    refine HU.out.mono ?_
    rintro e w1 ⟨rfl, h1⟩
    have H1 := Lib.hid h1
    clear h1
    go_wp2_with fail
    refine (dead_yes H1.out.1 he).mono ?_
    rintro e w2 ⟨rfl, rfl⟩
    go_wp2_with fail
    refine (dead_yes H1.out.1 he).mono ?_
    rintro e w3 ⟨rfl, rfl⟩
    go_wp2
    refine leaves_cons (f := 98) (args := #[.pointer (some ⟨R, 0, none⟩), .int .i64 a']) (by simp) (by simp [go_sem]) ?_
    refine (back_rd .returning a' H1.out.1).mono ?_
    rintro e u' w'' ⟨rfl, rfl, h3⟩
    rw [if_neg he] at h3
    exact ⟨_, results_tmp rfl _ _ _, rfl, H1.out.trans h3⟩

theorem unzig_bits {n : Nat} (h : n < 18446744073709551616) : bits BinOp.xor IntKind.i64 ((n : Int) / 2) (wrap64 (-wrap64 (bits BinOp.and IntKind.u64 (n : Int) 1))) = unzig n := by
  have hand : bits BinOp.and IntKind.u64 (n : Int) 1 = ((n % 2 : Nat) : Int) := by
    have := bits_and_u64_nat n 1 (by omega) (by omega)
    rw [Nat.and_one_is_mod] at this
    exact this
  have hw : wrap64 (-wrap64 ((n % 2 : Nat) : Int)) = -((n : Int) % 2) := by unfold wrap64; omega
  rw [hand, hw]
  unfold unzig
  by_cases h1 : n % 2 = 1
  · rw [if_pos h1]
    have e1 : -((n : Int) % 2) = -1 := by omega
    have e2 : (n : Int) / 2 = ((n / 2 : Nat) : Int) := by omega
    rw [e1, e2]
    show IntKind.i64.wrap ((BitVec.ofInt 64 ((n / 2 : Nat) : Int) ^^^ BitVec.ofInt 64 (-1)).toNat : Int) = _
    have e3 : BitVec.ofInt 64 (-1) = BitVec.allOnes 64 := by decide
    rw [e3, BitVec.xor_allOnes, BitVec.toNat_not, BitVec.ofInt_natCast, BitVec.toNat_ofNat, IntKind.wrap_i64]
    omega
  · rw [if_neg h1]
    have e1 : -((n : Int) % 2) = 0 := by omega
    have e2 : (n : Int) / 2 = ((n / 2 : Nat) : Int) := by omega
    rw [e1, e2]
    show IntKind.i64.wrap ((BitVec.ofInt 64 ((n / 2 : Nat) : Int) ^^^ BitVec.ofInt 64 0).toNat : Int) = _
    have e3 : BitVec.ofInt 64 0 = 0#64 := by decide
    rw [e3, BitVec.xor_zero, BitVec.ofInt_natCast, BitVec.toNat_ofNat, IntKind.wrap_i64]
    omega

set_option maxRecDepth 100000 in
set_option maxHeartbeats 2000000 in
theorem readI_any {w : World} {R : Nat} {v : Value} {l : List Int} {a : Nat} (h : Rd w R v l a 0) (hb : AllB l) (ha : a ≤ l.length) (hl : l.length ≤ 100000) :
    Calls Try.prog 100 #[.pointer (some ⟨R, 0, none⟩)] w fun e w' => e = .returned (.int .i64 (rdI l a).1) ∧ RdTo w R v l w' (rdI l a).2.1 (rdI l a).2.2 := by
  have HU := Lib.hid (readU_any h hb ha hl)
  have hn : (rdU l a).1 < 18446744073709551616 := by
    by_cases he : (rdU l a).2.2 = 0
    · exact (rdU_ok l hb a he).2.2.1
    · rw [(rdU_bad l a he).1]; decide
  unfold rdI
  generalize rdU l a = r at *
  obtain ⟨n, a', e'⟩ := r
  simp only at HU hn ⊢
  have hz := unzig_bits hn
  have HZ := Lib.hid hz
  clear h hz
  go_enter Try.func100, Try.ntmps100
  go_wp2_with fail
  refine HU.out.mono ?_
  rintro e w1 ⟨rfl, h1⟩
  have H1 := Lib.hid h1
  clear h1
  go_wp2
  go_ret
  exact ⟨ret_int HZ.out, H1.out⟩
end Go.Proofs.Ytdbonlpkmncggaa

namespace Go.Proofs.Ytdbonlpkmncggaa
open Go.RowKit

theorem rdN_facts (l : List Int) (hb : AllB l) (a : Nat) (most : Int) : ((rdN l a most).2.2 ≠ 0 → (rdN l a most).1 = 0 ∧ (rdN l a most).2.1 = a) ∧ ((rdN l a most).2.2 = 0 → a < (rdN l a most).2.1 ∧ (rdN l a most).2.1 ≤ l.length ∧ ((rdN l a most).1 : Int) ≤ most) := by
  have h1 := rdU_bad l a
  have h2 := rdU_ok l hb a
  unfold rdN
  by_cases he : (rdU l a).2.2 = 0
  · rw [if_neg (by omega)]
    by_cases hm : most < 0 ∨ most < ((rdU l a).1 : Int)
    · rw [if_pos hm]; simp
    · rw [if_neg hm]
      exact ⟨fun h => absurd he h, fun _ => ⟨(h2 he).1, (h2 he).2.1, by omega⟩⟩
  · rw [if_pos he]
    exact ⟨fun _ => ⟨rfl, rfl⟩, fun h => absurd h he⟩

theorem rdI_facts (l : List Int) (hb : AllB l) (a : Nat) : ((rdI l a).2.2 ≠ 0 → (rdI l a).1 = 0 ∧ (rdI l a).2.1 = a) ∧ ((rdI l a).2.2 = 0 → a < (rdI l a).2.1 ∧ (rdI l a).2.1 ≤ l.length) := by
  have h1 := rdU_bad l a
  have h2 := rdU_ok l hb a
  unfold rdI
  exact ⟨fun h => ⟨by simp only; rw [(h1 h).1]; rfl, (h1 h).2⟩, fun h => ⟨(h2 h).1, (h2 h).2.1⟩⟩

/-- One number put behind a row of integers of the call's own. -/
theorem OwnI.app {w : World} {base : Nat} {v' : Value} {acc : List Int} {x : Int} (h : w.ownsRow base 3 1 v' (acc.length + 1) (acc.map (Value.int .i64) ++ [.int .i64 x])) : w.ownsRow base 3 1 v' (acc ++ [x]).length ((acc ++ [x]).map (Value.int .i64)) := by simpa using h

theorem RdTo.belowB {w w2 w3 : World} {R : Nat} {v : Value} {l : List Int} {a0 a : Nat} {e0 e : Int} (h0 : Rd w R v l a0 e0) (h : RdTo w R v l w2 a e) (hb : Below w.heap.size w2 w3) : RdTo w R v l w3 a e := by
  refine ⟨⟨(hb.block R h0.lt).trans h.1.1, ?_⟩, ⟨hb.os.trans h.2.os, hb.tape.trans h.2.tape, hb.output.trans h.2.output, Nat.le_trans h.2.size hb.size, fun i hi hne => (hb.block i hi).trans (h.2.block i hi hne)⟩⟩
  obtain ⟨ad, c, rfl, g1, g2, g3, g4⟩ := h.1.2
  obtain ⟨ad', c', e1, _, _, _, g4'⟩ := h0.2
  injection e1 with e1 _ _
  subst e1
  refine ⟨ad, c, rfl, g1, g2, g3, fun i x hx => ?_⟩
  obtain ⟨b, o, rfl, hlt, hc⟩ := g4 i x hx
  obtain ⟨b', o', e2, hlt', _⟩ := g4' i x hx
  obtain ⟨rfl, rfl⟩ : b = b' ∧ o = o' := by injection e2 with e2; injection e2 with e3 e4; exact ⟨e3, e4⟩
  exact ⟨b, o, rfl, Nat.lt_of_lt_of_le hlt hb.size, (hb.cell (p := ⟨b, o + i, none⟩) hlt').trans hc⟩

end Go.Proofs.Ytdbonlpkmncggaa

namespace Go.Proofs.Ytdbonlpkmncggaa
open Go.RowKit

set_option maxRecDepth 100000 in
theorem from_any (v : Value) (l : List Int) (w : World) (h : Ints .u8 w v l) (hl : l.length ≤ 100000) :
    Calls Try.prog 36 #[v] w fun e w' => ∃ R v', e = .returned (.pointer (some ⟨R, 0, none⟩)) ∧ w.heap.size ≤ R ∧ Rd w' R v' l 0 0 ∧ Below w.heap.size w w' := by
  have HC := Lib.hid (clone8_any v l w h (by omega))
  clear h
  go_enter Try.func36, Try.ntmps36
  go_wp2_with fail
  refine HC.out.mono ?_
  rintro e w1 ⟨v1, rfl, ho, hb⟩
  have hI : Ints .u8 w1 v1 l := (Ints.own ho (by omega)).2
  have HI := Lib.hid hI; have HB := Lib.hid hb
  obtain ⟨ad, c, rfl⟩ := hI.shape
  clear ho hb hI
  go_wp2
  go_ret
  have hI := HI.out
  have hb1 : Below w1.heap.size w1 (w1.alloc (.cells #[.slice ad l.length c, .int .i64 0, .int .i64 0] 103)) := (Below.refl _ _).alloc (Nat.le_refl _) _
  exact ⟨w1.heap.size, _, rfl, HB.out.size, ⟨heap_alloc_new w1 _, hI.below hb1⟩, HB.out.alloc HB.out.size _⟩

theorem at_any {w : World} {R : Nat} {v : Value} {l : List Int} {a : Nat} {e0 : Int} (h : Rd w R v l a e0) : Calls Try.prog 41 #[.pointer (some ⟨R, 0, none⟩)] w fun e w' => e = .returned (.int .i64 a) ∧ w = w' := by
  obtain ⟨c0, c1, c2, f1, f2⟩ := h.cells
  clear h
  go_enter Try.func41, Try.ntmps41
  go_wp2
  go_ret
  exact ⟨rfl, rfl⟩

theorem err_any {w : World} {R : Nat} {v : Value} {l : List Int} {a : Nat} {e0 : Int} (h : Rd w R v l a e0) : Calls Try.prog 38 #[.pointer (some ⟨R, 0, none⟩)] w fun e w' => e = .returned (.int .i64 e0) ∧ w = w' := by
  obtain ⟨c0, c1, c2, f1, f2⟩ := h.cells
  clear h
  go_enter Try.func38, Try.ntmps38
  go_wp2
  go_ret
  exact ⟨rfl, rfl⟩

theorem err_nil (w : World) : Calls Try.prog 38 #[.pointer none] w fun e w' => e = .returned (.int .i64 7) ∧ w = w' := by
  go_enter Try.func38, Try.ntmps38
  go_wp2
  go_ret
  exact ⟨rfl, rfl⟩

theorem bleft_any {w : World} {R : Nat} {v : Value} {l : List Int} {a : Nat} {e0 : Int} (h : Rd w R v l a e0) (ha : a ≤ l.length) (hl : l.length ≤ 100000) : Calls Try.prog 39 #[.pointer (some ⟨R, 0, none⟩)] w fun e w' => e = .returned (.int .i64 ((l.length : Int) - a)) ∧ ∃ d, w' = w.drewN d := by
  obtain ⟨c0, c1, c2, f1, f2⟩ := h.cells
  obtain ⟨ad, c, rfl⟩ := h.2.shape
  clear h
  go_enter Try.func39, Try.ntmps39
  go_wp2
  go_quiet (fail)
  go_wp2
  go_ret
  exact ⟨rfl, _, rfl⟩

/-- How a reader that is made to fail fails. -/
def failE (e0 x : Int) : Int := if e0 = 0 then (if x = 0 then 211 else x) else e0

set_option maxRecDepth 100000 in
theorem fail_any {w : World} {R : Nat} {v : Value} {l : List Int} {a : Nat} {e0 : Int} (h : Rd w R v l a e0) (x : Int) : Calls Try.prog 73 #[.pointer (some ⟨R, 0, none⟩), .int .i64 x] w fun e w' => e = .returned (.tuple #[]) ∧ RdTo w R v l w' a (failE e0 x) := by
  obtain ⟨c0, c1, c2, f1, f2⟩ := h.cells
  have H := Lib.hid h
  clear h
  by_cases he : e0 = 0
  · subst he
    by_cases hx : x = 0
    · subst hx
      rw [failE, if_pos rfl, if_pos rfl]
      go_enter Try.func73, Try.ntmps73
      go_wp2_with fail
      refine (dead_no H.out).mono ?_
      rintro e w1 ⟨rfl, rfl⟩
      go_wp2
      go_end0
      exact ⟨rfl, H.out.set2 211, only_set _ _ _ _⟩
    · rw [failE, if_pos rfl, if_neg hx]
      have hxb : (x == 0) = false := by simpa using hx
      go_enter Try.func73, Try.ntmps73
      go_wp2_with fail
      refine (dead_no H.out).mono ?_
      rintro e w1 ⟨rfl, rfl⟩
      go_wp2
      go_end0
      exact ⟨rfl, H.out.set2 x, only_set _ _ _ _⟩
  · rw [failE, if_neg he]
    go_enter Try.func73, Try.ntmps73
    go_wp2_with fail
    refine (dead_yes H.out he).mono ?_
    rintro e w1 ⟨rfl, rfl⟩
    go_wp2
    refine bodyPost_ret (results_none rfl _ _ _) rfl ?_
    exact ⟨rfl, H.out, only_refl _ _⟩

theorem readU_dead {w : World} {R : Nat} {v : Value} {l : List Int} {a : Nat} {e0 : Int} (h : Rd w R v l a e0) (he : e0 ≠ 0) : Calls Try.prog 99 #[.pointer (some ⟨R, 0, none⟩)] w fun e w' => e = .returned (.int .u64 0) ∧ w = w' := by
  have H := Lib.hid (dead_yes h he)
  clear h he
  go_enter_defers Try.func99, Try.ntmps99
  go_wp2_with fail
  refine H.out.mono ?_
  rintro e w1 ⟨rfl, rfl⟩
  go_wp2
  exact ⟨_, results_tmp rfl _ _ _, rfl, rfl⟩

theorem readN_dead {w : World} {R : Nat} {v : Value} {l : List Int} {a : Nat} {e0 : Int} (h : Rd w R v l a e0) (he : e0 ≠ 0) (most : Int) : Calls Try.prog 72 #[.pointer (some ⟨R, 0, none⟩), .int .i64 most] w fun e w' => e = .returned (.int .i64 0) ∧ w = w' := by
  have H := Lib.hid (dead_yes h he)
  clear h he
  go_enter_defers Try.func72, Try.ntmps72
  go_wp2_with fail
  refine H.out.mono ?_
  rintro e w1 ⟨rfl, rfl⟩
  go_wp2
  exact ⟨_, results_tmp rfl _ _ _, rfl, rfl⟩

set_option maxRecDepth 100000 in
theorem readI_dead {w : World} {R : Nat} {v : Value} {l : List Int} {a : Nat} {e0 : Int} (h : Rd w R v l a e0) (he : e0 ≠ 0) : Calls Try.prog 100 #[.pointer (some ⟨R, 0, none⟩)] w fun e w' => e = .returned (.int .i64 0) ∧ w = w' := by
  have H := Lib.hid (readU_dead h he)
  clear h he
  go_enter Try.func100, Try.ntmps100
  go_wp2_with fail
  refine H.out.mono ?_
  rintro e w1 ⟨rfl, rfl⟩
  go_wp2
  go_ret
  exact ⟨ret_int (by decide +kernel), rfl⟩

end Go.Proofs.Ytdbonlpkmncggaa

namespace Go.Proofs.Ytdbonlpkmncggaa
open Go.RowKit

theorem rfail_any (v : Value) (ad : Option Addr) (n c : Nat) (hv : v = .slice ad n c) (a e0 x : Int) (w : World) :
    Calls Try.prog 102 #[.agg #[v, .int .i64 a, .int .i64 e0], .int .i64 x] w fun e w' => e = .returned (.agg #[v, .int .i64 a, .int .i64 x]) ∧ Below w.heap.size w w' := by
  subst hv
  go_enter Try.func102, Try.ntmps102
  go_wp2
  refine bodyPost_ret (v := .agg #[.slice ad n c, .int .i64 a, .int .i64 x]) (by simp [results, Try.results102, go_sem]) rfl ⟨rfl, ?_⟩
  (repeat (first | with_reducible exact Below.refl _ _ | with_reducible refine Bs ?_ | with_reducible refine Ba ?_ | with_reducible refine Bd ?_ | with_reducible refine Bn ?_))
/-- What a function that reads a number from a reader by value tells. -/
def RefU (w : World) (v : Value) (r : Nat × Nat × Int) (e : Ending) (w' : World) : Prop := e = .returned (.tuple #[.agg #[v, .int .i64 r.2.1, .int .i64 r.2.2], .int .u64 r.1]) ∧ Below w.heap.size w w'

set_option maxRecDepth 100000 in
theorem rReadU_dead (ad : Option Addr) (n c : Nat) (a : Nat) (e0 : Int) (he : e0 ≠ 0) (w : World) :
    Calls Try.prog 101 #[.agg #[.slice ad n c, .int .i64 a, .int .i64 e0]] w fun e w' => RefU w (.slice ad n c) (0, a, e0) e w' := by
  have hne : (e0 != 0) = true := by simpa using he
  clear he
  go_enter Try.func101, Try.ntmps101
  go_wp2
  refine bodyPost_ret (v := .tuple #[.agg #[.slice ad n c, .int .i64 a, .int .i64 e0], .int .u64 0]) (by simp [results, Try.results101, go_sem]) rfl ⟨rfl, ?_⟩
  (repeat (first | with_reducible exact Below.refl _ _ | with_reducible refine Bs ?_ | with_reducible refine Ba ?_ | with_reducible refine Bd ?_ | with_reducible refine Bn ?_))

set_option maxRecDepth 100000 in
set_option maxHeartbeats 2000000 in
theorem rReadU_any (v : Value) (l : List Int) (a : Nat) (w : World) (h : Ints .u8 w v l) (hb : AllB l) (ha : a ≤ l.length) (hl : l.length ≤ 100000) :
    Calls Try.prog 101 #[.agg #[v, .int .i64 a, .int .i64 0]] w fun e w' => RefU w v (rdU l a) e w' := by
  have HI := Lib.hid h
  obtain ⟨ad, c, rfl⟩ := h.shape
  clear h
  cases hf : l[a]? with
  | none =>
    have hr : rdU l a = (0, a, 210) := by unfold rdU; rw [hf]
    rw [hr]
    have hal : (l.length : Int) ≤ a := by
      rcases Nat.lt_or_ge a l.length with hlt | hge
      · rw [List.getElem?_eq_getElem hlt] at hf; cases hf
      · omega
    clear hr hf
    go_enter Try.func101, Try.ntmps101
    go_wp2_with (go_at_call 102; refine (rfail_any _ ad l.length c rfl a 0 210 _).mono ?_; rintro e w1 ⟨rfl, hbw⟩; have c0_0 := hbw.cell (p := ⟨w.heap.size, 0, none⟩) (by first | omega | (simp <;> omega)); have f0_0 := hbw.frozen (p := ⟨w.heap.size, 0, none⟩) (by first | omega | (simp <;> omega)); have c0_1 := hbw.cell (p := ⟨w.heap.size, 1, none⟩) (by first | omega | (simp <;> omega)); have f0_1 := hbw.frozen (p := ⟨w.heap.size, 1, none⟩) (by first | omega | (simp <;> omega)); have c0_2 := hbw.cell (p := ⟨w.heap.size, 2, none⟩) (by first | omega | (simp <;> omega)); have f0_2 := hbw.frozen (p := ⟨w.heap.size, 2, none⟩) (by first | omega | (simp <;> omega)); have c1_0 := hbw.cell (p := ⟨w.heap.size + 1, 0, none⟩) (by first | omega | (simp <;> omega)); have f1_0 := hbw.frozen (p := ⟨w.heap.size + 1, 0, none⟩) (by first | omega | (simp <;> omega)); have c1_1 := hbw.cell (p := ⟨w.heap.size + 1, 1, none⟩) (by first | omega | (simp <;> omega)); have f1_1 := hbw.frozen (p := ⟨w.heap.size + 1, 1, none⟩) (by first | omega | (simp <;> omega)); have c1_2 := hbw.cell (p := ⟨w.heap.size + 1, 2, none⟩) (by first | omega | (simp <;> omega)); have f1_2 := hbw.frozen (p := ⟨w.heap.size + 1, 2, none⟩) (by first | omega | (simp <;> omega)))
    have hz : w.heap.size + 1 < w1.heap.size := by have := hbw.size; simp at this; omega
    refine bodyPost_ret (v := .tuple #[.agg #[.slice ad l.length c, .int .i64 a, .int .i64 210], .int .u64 0]) (by simp [results, Try.results101, go_sem, c1_0, c1_1, c1_2]) rfl ⟨rfl, ?_⟩
    (repeat (first | with_reducible exact Below.refl _ _ | with_reducible refine Bs ?_ | with_reducible refine Ba ?_ | with_reducible refine Bd ?_ | with_reducible refine Bn ?_ | with_reducible refine Bt hbw ?_))
  | some f =>
    have hal : a < l.length := (List.getElem?_eq_some_iff.1 hf).1
    have hfb := hb f (List.mem_of_getElem? hf)
    obtain ⟨b, o, rfl, hcell⟩ : ∃ b o, ad = some ⟨b, o, none⟩ ∧ w.cell? ⟨b, o + a, none⟩ = some (.int .u8 f) ∧ b < w.heap.size := by
      obtain ⟨_, _, e0, _, _, _, h4⟩ := HI.out
      obtain ⟨b, o, e1, hlt, hc⟩ := h4 a f hf
      injection e0 with e0 _ _
      exact ⟨b, o, e0.trans e1, hc, hlt⟩
    obtain ⟨hcell, hblt⟩ := hcell
    by_cases hs : f < 240
    · have hr : rdU l a = (f.toNat, a + 1, 0) := by unfold rdU; rw [hf]; simp only [if_pos hs]
      rw [hr]
      clear hr hf
      obtain ⟨k, rfl⟩ := Int.eq_ofNat_of_zero_le hfb.1
      rw [Int.toNat_natCast]
      go_enter Try.func101, Try.ntmps101
      go_wp2
      refine bodyPost_ret (v := .tuple #[.agg #[.slice (some ⟨b, o, none⟩) l.length c, .int .i64 ((a : Int) + 1), .int .i64 0], .int .u64 k]) (by simp [results, Try.results101, go_sem]) rfl ⟨rfl, ?_⟩
      (repeat (first | with_reducible exact Below.refl _ _ | with_reducible refine Bs ?_ | with_reducible refine Ba ?_ | with_reducible refine Bd ?_ | with_reducible refine Bn ?_))
    · obtain ⟨k, rfl⟩ := Int.eq_ofNat_of_zero_le hfb.1
      by_cases h247 : (247 : Int) < k
      · have hr : rdU l a = (0, a, 211) := by unfold rdU; rw [hf]; simp only [if_neg hs, if_pos h247]
        rw [hr]
        clear hr hf
        go_enter Try.func101, Try.ntmps101
        go_wp2_with (go_at_call 102; refine (rfail_any _ (some ⟨b, o, none⟩) l.length c rfl a 0 211 _).mono ?_; rintro e w1 ⟨rfl, hbw⟩; have c0_0 := hbw.cell (p := ⟨w.heap.size, 0, none⟩) (by first | omega | (simp <;> omega)); have f0_0 := hbw.frozen (p := ⟨w.heap.size, 0, none⟩) (by first | omega | (simp <;> omega)); have c0_1 := hbw.cell (p := ⟨w.heap.size, 1, none⟩) (by first | omega | (simp <;> omega)); have f0_1 := hbw.frozen (p := ⟨w.heap.size, 1, none⟩) (by first | omega | (simp <;> omega)); have c0_2 := hbw.cell (p := ⟨w.heap.size, 2, none⟩) (by first | omega | (simp <;> omega)); have f0_2 := hbw.frozen (p := ⟨w.heap.size, 2, none⟩) (by first | omega | (simp <;> omega)); have c1_0 := hbw.cell (p := ⟨w.heap.size + 1, 0, none⟩) (by first | omega | (simp <;> omega)); have f1_0 := hbw.frozen (p := ⟨w.heap.size + 1, 0, none⟩) (by first | omega | (simp <;> omega)); have c1_1 := hbw.cell (p := ⟨w.heap.size + 1, 1, none⟩) (by first | omega | (simp <;> omega)); have f1_1 := hbw.frozen (p := ⟨w.heap.size + 1, 1, none⟩) (by first | omega | (simp <;> omega)); have c1_2 := hbw.cell (p := ⟨w.heap.size + 1, 2, none⟩) (by first | omega | (simp <;> omega)); have f1_2 := hbw.frozen (p := ⟨w.heap.size + 1, 2, none⟩) (by first | omega | (simp <;> omega)))
        refine bodyPost_ret (v := .tuple #[.agg #[.slice (some ⟨b, o, none⟩) l.length c, .int .i64 a, .int .i64 211], .int .u64 0]) (by simp [results, Try.results101, go_sem, c1_0, c1_1, c1_2]) rfl ⟨rfl, ?_⟩
        (repeat (first | with_reducible exact Below.refl _ _ | with_reducible refine Bs ?_ | with_reducible refine Ba ?_ | with_reducible refine Bd ?_ | with_reducible refine Bn ?_ | with_reducible refine Bt hbw ?_))
      · obtain ⟨m, rfl⟩ : ∃ m, k = 239 + m := ⟨k - 239, by omega⟩
        have hm : ((239 + m : Nat) : Int) - 239 = m := by omega
        have hr : rdU l a = if l.length < a + 1 + m then (0, a, 210) else if (putsU (numB ((l.drop (a + 1)).take m))).length = m + 1 then (numB ((l.drop (a + 1)).take m), a + 1 + m, 0) else (0, a, 211) := by
          unfold rdU; rw [hf]; simp only [if_neg hs, if_neg h247, hm, Int.toNat_natCast]
        rw [hr]
        clear hr hf hm
        by_cases hsh : l.length < a + 1 + m
        · rw [if_pos hsh]
          go_enter Try.func101, Try.ntmps101
          go_wp2_with (go_at_call 102; refine (rfail_any _ (some ⟨b, o, none⟩) l.length c rfl a 0 210 _).mono ?_; rintro e w1 ⟨rfl, hbw⟩; have c0_0 := hbw.cell (p := ⟨w.heap.size, 0, none⟩) (by first | omega | (simp <;> omega)); have f0_0 := hbw.frozen (p := ⟨w.heap.size, 0, none⟩) (by first | omega | (simp <;> omega)); have c0_1 := hbw.cell (p := ⟨w.heap.size, 1, none⟩) (by first | omega | (simp <;> omega)); have f0_1 := hbw.frozen (p := ⟨w.heap.size, 1, none⟩) (by first | omega | (simp <;> omega)); have c0_2 := hbw.cell (p := ⟨w.heap.size, 2, none⟩) (by first | omega | (simp <;> omega)); have f0_2 := hbw.frozen (p := ⟨w.heap.size, 2, none⟩) (by first | omega | (simp <;> omega)); have c1_0 := hbw.cell (p := ⟨w.heap.size + 1, 0, none⟩) (by first | omega | (simp <;> omega)); have f1_0 := hbw.frozen (p := ⟨w.heap.size + 1, 0, none⟩) (by first | omega | (simp <;> omega)); have c1_1 := hbw.cell (p := ⟨w.heap.size + 1, 1, none⟩) (by first | omega | (simp <;> omega)); have f1_1 := hbw.frozen (p := ⟨w.heap.size + 1, 1, none⟩) (by first | omega | (simp <;> omega)); have c1_2 := hbw.cell (p := ⟨w.heap.size + 1, 2, none⟩) (by first | omega | (simp <;> omega)); have f1_2 := hbw.frozen (p := ⟨w.heap.size + 1, 2, none⟩) (by first | omega | (simp <;> omega)))
          refine bodyPost_ret (v := .tuple #[.agg #[.slice (some ⟨b, o, none⟩) l.length c, .int .i64 a, .int .i64 210], .int .u64 0]) (by simp [results, Try.results101, go_sem, c1_0, c1_1, c1_2]) rfl ⟨rfl, ?_⟩
          (repeat (first | with_reducible exact Below.refl _ _ | with_reducible refine Bs ?_ | with_reducible refine Ba ?_ | with_reducible refine Bd ?_ | with_reducible refine Bn ?_ | with_reducible refine Bt hbw ?_))
        · rw [if_neg hsh]
          obtain ⟨r, hr⟩ : ∃ r, (if (putsU (numB ((l.drop (a + 1)).take m))).length = m + 1 then (numB ((l.drop (a + 1)).take m), a + 1 + m, (0 : Int)) else (0, a, 211)) = r := ⟨_, rfl⟩
          rw [hr]
          have hdl : ((l.drop (a + 1)).take m).length = m := by simp; omega
          have hdb : AllB ((l.drop (a + 1)).take m) := fun x hx => hb x (List.mem_of_mem_drop (List.mem_of_mem_take hx))
          have hget : ∀ k, k < m → ((l.drop (a + 1)).take m)[k]? = l[a + (k + 1)]? := by
            intro k hk
            rw [List.getElem?_take, if_pos hk, List.getElem?_drop]; congr 1; omega
          generalize (l.drop (a + 1)).take m = D at *
          have HR := Lib.hid hr
          have HDL := Lib.hid hdl
          have HDB := Lib.hid hdb
          have HG := Lib.hid hget
          have hm1 : 1 ≤ m := by omega
          have hm8 : m ≤ 8 := by omega
          clear hdl hdb hget hr
          go_enter Try.func101, Try.ntmps101
          go_wp2
          rw [show (239 + (m : Int) - 239) = m by omega]
          go_loop [6, 7] (fun n i => ∃ k : Nat, k ≤ m ∧ i = .int .i64 ((k : Int) + 1) ∧ n = .int .u64 (numB (D.take k) : Int)) (fun _ i => m + 1 - (intOf i).toNat)
          case atStart => exact ⟨0, Nat.zero_le _, rfl, rfl⟩
          case round =>
            obtain ⟨k, hk, rfl, rfl⟩ := hrel
            by_cases hlt' : k < m
            · obtain ⟨x, hx⟩ := getElem?_ex (l := D) (k := k) (by rw [HDL.out]; exact hlt')
              have hxb := HDB.out x (List.mem_of_getElem? hx)
              have hc2 : w.cell? ⟨b, o + (a + (k + 1)), none⟩ = some (.int .u8 x) := by
                obtain ⟨_, _, e0, _, _, _, h4⟩ := HI.out
                obtain ⟨b', o', e1, _, hc⟩ := h4 (a + (k + 1)) x (by rw [← HG.out k hlt']; exact hx)
                injection e0 with e0 _ _
                subst e0
                injection e1 with e1
                injection e1 with e2 e3
                subst e2 e3
                exact hc
              have hstep : numB (D.take (k + 1)) = numB (D.take k) * 256 + x.toNat := by rw [take_snoc' hx, numB_snoc]
              have hNk : numB (D.take k) < 72057594037927936 := by
                have h1 := numB_lt (D.take k) fun y hy => HDB.out y (List.mem_of_mem_take hy)
                have h2 : (D.take k).length ≤ 7 := by simp; omega
                exact Nat.lt_of_lt_of_le h1 (Nat.le_trans (Nat.pow_le_pow_right (by omega) h2) (by decide))
              have hai : ((a : Int) + ((k : Int) + 1)) = ((a + (k + 1) : Nat) : Int) := by omega
              have HS := Lib.hid hstep
              have HA := Lib.hid hai
              clear hstep hx hai
              go_wp2
              go_round
              case rel => exact ⟨k + 1, by omega, by go_num, by rw [HS.out]; go_num⟩
              case measure => simp [intOf]; omega
            · obtain rfl : k = m := by omega
              have hfull : numB (D.take k) = numB D := by rw [List.take_of_length_le (by rw [HDL.out]; exact Nat.le_refl _)]
              rw [hfull]
              have hND : (numB D : Int) ≤ 18446744073709551615 := by
                have h1 := numB_lt D HDB.out
                rw [HDL.out] at h1
                have := Nat.lt_of_lt_of_le h1 (Nat.le_trans (Nat.pow_le_pow_right (by omega) hm8) (show 256 ^ 8 ≤ 18446744073709551616 by decide))
                omega
              clear hfull
              have hUL := putsU_len (n := numB D)
              obtain ⟨u, hu⟩ : ∃ u, (putsU (numB D)).length = u := ⟨_, rfl⟩
              rw [hu] at hUL
              have HU := Lib.hid hu
              clear hu
              go_wp2_with fail
              refine (rU_any (numB D) _ hND).mono ?_
              rintro e w1 ⟨v1, rfl, ho, hbw⟩
              obtain ⟨ad1, cc1, rfl⟩ := (Ints.own ho (by have := HU.out; omega)).2.shape
              clear ho
              rw [HU.out]
              have c0_0 := hbw.cell (p := ⟨w.heap.size, 0, none⟩) (by first | omega | (simp <;> omega)); have f0_0 := hbw.frozen (p := ⟨w.heap.size, 0, none⟩) (by first | omega | (simp <;> omega)); have c0_1 := hbw.cell (p := ⟨w.heap.size, 1, none⟩) (by first | omega | (simp <;> omega)); have f0_1 := hbw.frozen (p := ⟨w.heap.size, 1, none⟩) (by first | omega | (simp <;> omega)); have c0_2 := hbw.cell (p := ⟨w.heap.size, 2, none⟩) (by first | omega | (simp <;> omega)); have f0_2 := hbw.frozen (p := ⟨w.heap.size, 2, none⟩) (by first | omega | (simp <;> omega)); have c1_0 := hbw.cell (p := ⟨w.heap.size + 1, 0, none⟩) (by first | omega | (simp <;> omega)); have f1_0 := hbw.frozen (p := ⟨w.heap.size + 1, 0, none⟩) (by first | omega | (simp <;> omega)); have c1_1 := hbw.cell (p := ⟨w.heap.size + 1, 1, none⟩) (by first | omega | (simp <;> omega)); have f1_1 := hbw.frozen (p := ⟨w.heap.size + 1, 1, none⟩) (by first | omega | (simp <;> omega)); have c1_2 := hbw.cell (p := ⟨w.heap.size + 1, 2, none⟩) (by first | omega | (simp <;> omega)); have f1_2 := hbw.frozen (p := ⟨w.heap.size + 1, 2, none⟩) (by first | omega | (simp <;> omega))
              have hz : w.heap.size + 1 < w1.heap.size := by have := hbw.size; simp at this; omega
              by_cases hun : u = k + 1
              · have hub : ((u : Int) != (k : Int) + 1) = false := by simp; omega
                have HN := Lib.hid hun
                clear hun
                go_wp2
                have hr := HR.out
                rw [if_pos (by rw [HU.out]; exact HN.out)] at hr
                subst hr
                refine bodyPost_ret (v := .tuple #[.agg #[.slice (some ⟨b, o, none⟩) l.length c, .int .i64 ((a : Int) + k + 1), .int .i64 0], .int .u64 (numB D)]) (by simp [results, Try.results101, go_sem, *]) rfl ⟨?_, ?_⟩
                · rw [show ((a + 1 + k : Nat) : Int) = (a : Int) + k + 1 by omega]
                · (repeat (first | with_reducible exact Below.refl _ _ | with_reducible refine Bs ?_ | with_reducible refine Ba ?_ | with_reducible refine Bd ?_ | with_reducible refine Bn ?_ | with_reducible refine Bt hbw ?_))
              · have hub : ((u : Int) != (k : Int) + 1) = true := by simp; omega
                have HN := Lib.hid hun
                clear hun
                go_wp2_with (go_at_call 102; refine (rfail_any _ (some ⟨b, o, none⟩) l.length c rfl a 0 211 _).mono ?_; rintro e w2 ⟨rfl, hbw2⟩; have c0_0 := hbw2.cell (p := ⟨w.heap.size, 0, none⟩) (by first | omega | (simp <;> omega)); have f0_0 := hbw2.frozen (p := ⟨w.heap.size, 0, none⟩) (by first | omega | (simp <;> omega)); have c0_1 := hbw2.cell (p := ⟨w.heap.size, 1, none⟩) (by first | omega | (simp <;> omega)); have f0_1 := hbw2.frozen (p := ⟨w.heap.size, 1, none⟩) (by first | omega | (simp <;> omega)); have c0_2 := hbw2.cell (p := ⟨w.heap.size, 2, none⟩) (by first | omega | (simp <;> omega)); have f0_2 := hbw2.frozen (p := ⟨w.heap.size, 2, none⟩) (by first | omega | (simp <;> omega)); have c1_0 := hbw2.cell (p := ⟨w.heap.size + 1, 0, none⟩) (by first | omega | (simp <;> omega)); have f1_0 := hbw2.frozen (p := ⟨w.heap.size + 1, 0, none⟩) (by first | omega | (simp <;> omega)); have c1_1 := hbw2.cell (p := ⟨w.heap.size + 1, 1, none⟩) (by first | omega | (simp <;> omega)); have f1_1 := hbw2.frozen (p := ⟨w.heap.size + 1, 1, none⟩) (by first | omega | (simp <;> omega)); have c1_2 := hbw2.cell (p := ⟨w.heap.size + 1, 2, none⟩) (by first | omega | (simp <;> omega)); have f1_2 := hbw2.frozen (p := ⟨w.heap.size + 1, 2, none⟩) (by first | omega | (simp <;> omega)))
                have hr := HR.out
                rw [if_neg (by rw [HU.out]; exact HN.out)] at hr
                subst hr
                refine bodyPost_ret (v := .tuple #[.agg #[.slice (some ⟨b, o, none⟩) l.length c, .int .i64 a, .int .i64 211], .int .u64 0]) (by simp [results, Try.results101, go_sem, *]) rfl ⟨rfl, ?_⟩
                (repeat (first | with_reducible exact Below.refl _ _ | with_reducible refine Bs ?_ | with_reducible refine Ba ?_ | with_reducible refine Bd ?_ | with_reducible refine Bn ?_ | with_reducible refine Bt hbw2 ?_ | with_reducible refine Bt hbw ?_))
end Go.Proofs.Ytdbonlpkmncggaa

namespace Go.Proofs.Ytdbonlpkmncggaa
open Go.RowKit

def rdU' (l : List Int) (a : Nat) (e : Int) : Nat × Nat × Int := if e = 0 then rdU l a else (0, a, e)
def rdN' (l : List Int) (a : Nat) (e most : Int) : Nat × Nat × Int := if e = 0 then rdN l a most else (0, a, e)
def rdI' (l : List Int) (a : Nat) (e : Int) : Int × Nat × Int := if e = 0 then rdI l a else (0, a, e)
/-- A reader by value and another result. -/
def RefR (w : World) (v : Value) (a : Nat) (x : Int) (u : Value) (e : Ending) (w' : World) : Prop := e = .returned (.tuple #[.agg #[v, .int .i64 a, .int .i64 x], u]) ∧ Below w.heap.size w w'

theorem rReadU_all (v : Value) (l : List Int) (a : Nat) (e0 : Int) (w : World) (h : Ints .u8 w v l) (hb : AllB l) (ha : a ≤ l.length) (hl : l.length ≤ 100000) :
    Calls Try.prog 101 #[.agg #[v, .int .i64 a, .int .i64 e0]] w fun e w' => RefR w v (rdU' l a e0).2.1 (rdU' l a e0).2.2 (.int .u64 (rdU' l a e0).1) e w' := by
  by_cases he : e0 = 0
  · subst he
    rw [rdU', if_pos rfl]
    exact rReadU_any v l a w h hb ha hl
  · rw [rdU', if_neg he]
    obtain ⟨ad, c, rfl⟩ := h.shape
    exact rReadU_dead ad _ c a e0 he w

theorem rdU'_facts (l : List Int) (hb : AllB l) (a : Nat) (e : Int) : ((rdU' l a e).2.2 ≠ 0 → (rdU' l a e).1 = 0 ∧ (rdU' l a e).2.1 = a) ∧ (rdU' l a e).1 < 18446744073709551616 := by
  have h1 := rdU_bad l a
  have h2 := rdU_ok l hb a
  unfold rdU'
  by_cases he : e = 0
  · rw [if_pos he]
    refine ⟨h1, ?_⟩
    by_cases h3 : (rdU l a).2.2 = 0
    · exact (h2 h3).2.2.1
    · rw [(h1 h3).1]; decide
  · rw [if_neg he]; exact ⟨fun _ => ⟨rfl, rfl⟩, by simp⟩

theorem rdN'_of (l : List Int) (a : Nat) (e most : Int) : rdN' l a e most = if (rdU' l a e).2.2 ≠ 0 then (0, a, (rdU' l a e).2.2) else if most < 0 ∨ most < ((rdU' l a e).1 : Int) then (0, a, 211) else rdU' l a e := by
  unfold rdN' rdU' rdN
  by_cases he : e = 0
  · simp only [if_pos he]
  · simp only [if_neg he]; rw [if_pos (by exact he)]

theorem rdI'_of (l : List Int) (a : Nat) (e : Int) : rdI' l a e = (unzig (rdU' l a e).1, (rdU' l a e).2.1, (rdU' l a e).2.2) := by
  unfold rdI' rdU' rdI
  by_cases he : e = 0
  · simp only [if_pos he]
  · simp only [if_neg he]; rfl

theorem rdN'_facts (l : List Int) (hb : AllB l) (a : Nat) (e most : Int) : ((rdN' l a e most).2.2 ≠ 0 → (rdN' l a e most).1 = 0 ∧ (rdN' l a e most).2.1 = a) ∧ ((rdN' l a e most).2.2 = 0 → a < (rdN' l a e most).2.1 ∧ (rdN' l a e most).2.1 ≤ l.length ∧ ((rdN' l a e most).1 : Int) ≤ most) := by
  unfold rdN'
  by_cases he : e = 0
  · rw [if_pos he]; exact rdN_facts l hb a most
  · rw [if_neg he]; exact ⟨fun _ => ⟨rfl, rfl⟩, fun h => absurd h he⟩

set_option maxRecDepth 100000 in
set_option maxHeartbeats 2000000 in
theorem rReadN_all (v : Value) (l : List Int) (a : Nat) (e0 most : Int) (w : World) (h : Ints .u8 w v l) (hb : AllB l) (ha : a ≤ l.length) (hl : l.length ≤ 100000) (hm : Ok64 most) :
    Calls Try.prog 75 #[.agg #[v, .int .i64 a, .int .i64 e0], .int .i64 most] w fun e w' => RefR w v (rdN' l a e0 most).2.1 (rdN' l a e0 most).2.2 (.int .i64 (rdN' l a e0 most).1) e w' := by
  have hU := fun W hW => rReadU_all v l a e0 W hW hb ha hl
  have hfc := rdU'_facts l hb a e0
  rw [rdN'_of]
  generalize rdU' l a e0 = r at *
  obtain ⟨n, a', e'⟩ := r
  simp only at hU hfc ⊢
  have HU := Lib.hid hU
  have HI := Lib.hid (h.below (w' := (w.alloc (.cells #[v, .int .i64 a, .int .i64 e0] 66)).alloc (.cells #[.slice none 0 0, .int .i64 0, .int .i64 0] 66)) (by (repeat (first | with_reducible exact Below.refl _ _ | with_reducible refine Bs ?_ | with_reducible refine Ba ?_ | with_reducible refine Bd ?_ | with_reducible refine Bn ?_))))
  obtain ⟨ad, c, rfl⟩ := h.shape
  clear h hU
  unfold Ok64 at hm
  have hn64 : (n : Int) ≤ 18446744073709551615 := by have := hfc.2; omega
  by_cases he : e' = 0
  · subst he
    rw [if_neg (by omega)]
    clear hfc
    by_cases hmost : most < 0 ∨ most < (n : Int)
    · rw [if_pos hmost]
      have hc : most < 0 ∨ (¬ most < 0 ∧ most < (n : Int)) := by omega
      clear hmost
      rcases hc with hc | ⟨hc, hc2⟩
      all_goals
        go_enter Try.func75, Try.ntmps75
        go_wp2_with fail
        refine (HU.out _ HI.out).mono ?_
        rintro e w1 ⟨rfl, hbw⟩
        have c0_0 := hbw.cell (p := ⟨w.heap.size, 0, none⟩) (by first | omega | (simp <;> omega)); have f0_0 := hbw.frozen (p := ⟨w.heap.size, 0, none⟩) (by first | omega | (simp <;> omega)); have c0_1 := hbw.cell (p := ⟨w.heap.size, 1, none⟩) (by first | omega | (simp <;> omega)); have f0_1 := hbw.frozen (p := ⟨w.heap.size, 1, none⟩) (by first | omega | (simp <;> omega)); have c0_2 := hbw.cell (p := ⟨w.heap.size, 2, none⟩) (by first | omega | (simp <;> omega)); have f0_2 := hbw.frozen (p := ⟨w.heap.size, 2, none⟩) (by first | omega | (simp <;> omega)); have c1_0 := hbw.cell (p := ⟨w.heap.size + 1, 0, none⟩) (by first | omega | (simp <;> omega)); have f1_0 := hbw.frozen (p := ⟨w.heap.size + 1, 0, none⟩) (by first | omega | (simp <;> omega)); have c1_1 := hbw.cell (p := ⟨w.heap.size + 1, 1, none⟩) (by first | omega | (simp <;> omega)); have f1_1 := hbw.frozen (p := ⟨w.heap.size + 1, 1, none⟩) (by first | omega | (simp <;> omega)); have c1_2 := hbw.cell (p := ⟨w.heap.size + 1, 2, none⟩) (by first | omega | (simp <;> omega)); have f1_2 := hbw.frozen (p := ⟨w.heap.size + 1, 2, none⟩) (by first | omega | (simp <;> omega))
        have hz0 : w.heap.size < w1.heap.size := (by have := hbw.size; first | omega | (simp at this; omega)); have hy0 : w.heap.size ≠ w1.heap.size := (by omega); have hx0 : w1.heap.size ≠ w.heap.size := (by omega); have hz1 : w.heap.size + 1 < w1.heap.size := (by have := hbw.size; first | omega | (simp at this; omega)); have hy1 : w.heap.size + 1 ≠ w1.heap.size := (by omega); have hx1 : w1.heap.size ≠ w.heap.size + 1 := (by omega)
        go_wp2_with (go_at_call 102; refine (rfail_any _ ad l.length c rfl a e0 211 _).mono ?_; rintro e w2 ⟨rfl, hbw2⟩; have c0_0 := hbw2.cell (p := ⟨w.heap.size, 0, none⟩) (by first | omega | (simp <;> omega)); have f0_0 := hbw2.frozen (p := ⟨w.heap.size, 0, none⟩) (by first | omega | (simp <;> omega)); have c0_1 := hbw2.cell (p := ⟨w.heap.size, 1, none⟩) (by first | omega | (simp <;> omega)); have f0_1 := hbw2.frozen (p := ⟨w.heap.size, 1, none⟩) (by first | omega | (simp <;> omega)); have c0_2 := hbw2.cell (p := ⟨w.heap.size, 2, none⟩) (by first | omega | (simp <;> omega)); have f0_2 := hbw2.frozen (p := ⟨w.heap.size, 2, none⟩) (by first | omega | (simp <;> omega)); have c1_0 := hbw2.cell (p := ⟨w.heap.size + 1, 0, none⟩) (by first | omega | (simp <;> omega)); have f1_0 := hbw2.frozen (p := ⟨w.heap.size + 1, 0, none⟩) (by first | omega | (simp <;> omega)); have c1_1 := hbw2.cell (p := ⟨w.heap.size + 1, 1, none⟩) (by first | omega | (simp <;> omega)); have f1_1 := hbw2.frozen (p := ⟨w.heap.size + 1, 1, none⟩) (by first | omega | (simp <;> omega)); have c1_2 := hbw2.cell (p := ⟨w.heap.size + 1, 2, none⟩) (by first | omega | (simp <;> omega)); have f1_2 := hbw2.frozen (p := ⟨w.heap.size + 1, 2, none⟩) (by first | omega | (simp <;> omega)))
        refine bodyPost_ret (v := .tuple #[.agg #[.slice ad l.length c, .int .i64 a, .int .i64 211], .int .i64 0]) (by simp [results, Try.results75, go_sem, *]) rfl ⟨rfl, ?_⟩
        (repeat (first | with_reducible exact Below.refl _ _ | with_reducible refine Bs ?_ | with_reducible refine Ba ?_ | with_reducible refine Bd ?_ | with_reducible refine Bn ?_ | with_reducible refine Bt hbw2 ?_ | with_reducible refine Bt hbw ?_))
    · rw [if_neg hmost]
      obtain ⟨hm0, hm1⟩ : ¬ most < 0 ∧ ¬ most < (n : Int) := by omega
      have hn63 : (n : Int) ≤ 9223372036854775807 := by omega
      clear hmost
      go_enter Try.func75, Try.ntmps75
      go_wp2_with fail
      refine (HU.out _ HI.out).mono ?_
      rintro e w1 ⟨rfl, hbw⟩
      have c0_0 := hbw.cell (p := ⟨w.heap.size, 0, none⟩) (by first | omega | (simp <;> omega)); have f0_0 := hbw.frozen (p := ⟨w.heap.size, 0, none⟩) (by first | omega | (simp <;> omega)); have c0_1 := hbw.cell (p := ⟨w.heap.size, 1, none⟩) (by first | omega | (simp <;> omega)); have f0_1 := hbw.frozen (p := ⟨w.heap.size, 1, none⟩) (by first | omega | (simp <;> omega)); have c0_2 := hbw.cell (p := ⟨w.heap.size, 2, none⟩) (by first | omega | (simp <;> omega)); have f0_2 := hbw.frozen (p := ⟨w.heap.size, 2, none⟩) (by first | omega | (simp <;> omega)); have c1_0 := hbw.cell (p := ⟨w.heap.size + 1, 0, none⟩) (by first | omega | (simp <;> omega)); have f1_0 := hbw.frozen (p := ⟨w.heap.size + 1, 0, none⟩) (by first | omega | (simp <;> omega)); have c1_1 := hbw.cell (p := ⟨w.heap.size + 1, 1, none⟩) (by first | omega | (simp <;> omega)); have f1_1 := hbw.frozen (p := ⟨w.heap.size + 1, 1, none⟩) (by first | omega | (simp <;> omega)); have c1_2 := hbw.cell (p := ⟨w.heap.size + 1, 2, none⟩) (by first | omega | (simp <;> omega)); have f1_2 := hbw.frozen (p := ⟨w.heap.size + 1, 2, none⟩) (by first | omega | (simp <;> omega))
      have hz0 : w.heap.size < w1.heap.size := (by have := hbw.size; first | omega | (simp at this; omega)); have hy0 : w.heap.size ≠ w1.heap.size := (by omega); have hx0 : w1.heap.size ≠ w.heap.size := (by omega); have hz1 : w.heap.size + 1 < w1.heap.size := (by have := hbw.size; first | omega | (simp at this; omega)); have hy1 : w.heap.size + 1 ≠ w1.heap.size := (by omega); have hx1 : w1.heap.size ≠ w.heap.size + 1 := (by omega)
      go_wp2
      refine bodyPost_ret (v := .tuple #[.agg #[.slice ad l.length c, .int .i64 a', .int .i64 0], .int .i64 n]) (by simp [results, Try.results75, go_sem, *]) rfl ⟨rfl, ?_⟩
      (repeat (first | with_reducible exact Below.refl _ _ | with_reducible refine Bs ?_ | with_reducible refine Ba ?_ | with_reducible refine Bd ?_ | with_reducible refine Bn ?_ | with_reducible refine Bt hbw ?_))
  · obtain ⟨h1, h2⟩ := hfc.1 he
    subst h1 h2
    rw [if_pos he]
    have hne : (e' != 0) = true := by simpa using he
    clear hfc he
    go_enter Try.func75, Try.ntmps75
    go_wp2_with fail
    refine (HU.out _ HI.out).mono ?_
    rintro e w1 ⟨rfl, hbw⟩
    have c0_0 := hbw.cell (p := ⟨w.heap.size, 0, none⟩) (by first | omega | (simp <;> omega)); have f0_0 := hbw.frozen (p := ⟨w.heap.size, 0, none⟩) (by first | omega | (simp <;> omega)); have c0_1 := hbw.cell (p := ⟨w.heap.size, 1, none⟩) (by first | omega | (simp <;> omega)); have f0_1 := hbw.frozen (p := ⟨w.heap.size, 1, none⟩) (by first | omega | (simp <;> omega)); have c0_2 := hbw.cell (p := ⟨w.heap.size, 2, none⟩) (by first | omega | (simp <;> omega)); have f0_2 := hbw.frozen (p := ⟨w.heap.size, 2, none⟩) (by first | omega | (simp <;> omega)); have c1_0 := hbw.cell (p := ⟨w.heap.size + 1, 0, none⟩) (by first | omega | (simp <;> omega)); have f1_0 := hbw.frozen (p := ⟨w.heap.size + 1, 0, none⟩) (by first | omega | (simp <;> omega)); have c1_1 := hbw.cell (p := ⟨w.heap.size + 1, 1, none⟩) (by first | omega | (simp <;> omega)); have f1_1 := hbw.frozen (p := ⟨w.heap.size + 1, 1, none⟩) (by first | omega | (simp <;> omega)); have c1_2 := hbw.cell (p := ⟨w.heap.size + 1, 2, none⟩) (by first | omega | (simp <;> omega)); have f1_2 := hbw.frozen (p := ⟨w.heap.size + 1, 2, none⟩) (by first | omega | (simp <;> omega))
    have hz0 : w.heap.size < w1.heap.size := (by have := hbw.size; first | omega | (simp at this; omega)); have hy0 : w.heap.size ≠ w1.heap.size := (by omega); have hx0 : w1.heap.size ≠ w.heap.size := (by omega); have hz1 : w.heap.size + 1 < w1.heap.size := (by have := hbw.size; first | omega | (simp at this; omega)); have hy1 : w.heap.size + 1 ≠ w1.heap.size := (by omega); have hx1 : w1.heap.size ≠ w.heap.size + 1 := (by omega)
    go_wp2
    refine bodyPost_ret (v := .tuple #[.agg #[.slice ad l.length c, .int .i64 a', .int .i64 e'], .int .i64 0]) (by simp [results, Try.results75, go_sem, *]) rfl ⟨rfl, ?_⟩
    (repeat (first | with_reducible exact Below.refl _ _ | with_reducible refine Bs ?_ | with_reducible refine Ba ?_ | with_reducible refine Bd ?_ | with_reducible refine Bn ?_ | with_reducible refine Bt hbw ?_))
end Go.Proofs.Ytdbonlpkmncggaa

namespace Go.Proofs.Ytdbonlpkmncggaa
open Go.RowKit

set_option maxRecDepth 100000 in
set_option maxHeartbeats 2000000 in
theorem rReadI_all (v : Value) (l : List Int) (a : Nat) (e0 : Int) (w : World) (h : Ints .u8 w v l) (hb : AllB l) (ha : a ≤ l.length) (hl : l.length ≤ 100000) :
    Calls Try.prog 103 #[.agg #[v, .int .i64 a, .int .i64 e0]] w fun e w' => RefR w v (rdI' l a e0).2.1 (rdI' l a e0).2.2 (.int .i64 (rdI' l a e0).1) e w' := by
  have hU := fun W hW => rReadU_all v l a e0 W hW hb ha hl
  have hfc := (rdU'_facts l hb a e0).2
  rw [rdI'_of]
  generalize rdU' l a e0 = r at *
  obtain ⟨n, a', e'⟩ := r
  simp only at hU hfc ⊢
  have HU := Lib.hid hU
  have HI := Lib.hid (h.below (w' := (w.alloc (.cells #[v, .int .i64 a, .int .i64 e0] 66)).alloc (.cells #[.slice none 0 0, .int .i64 0, .int .i64 0] 66)) (by (repeat (first | with_reducible exact Below.refl _ _ | with_reducible refine Bs ?_ | with_reducible refine Ba ?_ | with_reducible refine Bd ?_ | with_reducible refine Bn ?_))))
  obtain ⟨ad, c, rfl⟩ := h.shape
  have hn64 : (n : Int) ≤ 18446744073709551615 := by omega
  clear h hU hfc
  by_cases h1 : n % 2 = 1
  · rw [unzig, if_pos h1]
    have hb1 : ((n : Int) % 2 == 1) = true := by simp; omega
    have H1 := Lib.hid h1
    clear h1
    go_enter Try.func103, Try.ntmps103
    go_wp2_with fail
    refine (HU.out _ HI.out).mono ?_
    rintro e w1 ⟨rfl, hbw⟩
    have c0_0 := hbw.cell (p := ⟨w.heap.size, 0, none⟩) (by first | omega | (simp <;> omega)); have f0_0 := hbw.frozen (p := ⟨w.heap.size, 0, none⟩) (by first | omega | (simp <;> omega)); have c0_1 := hbw.cell (p := ⟨w.heap.size, 1, none⟩) (by first | omega | (simp <;> omega)); have f0_1 := hbw.frozen (p := ⟨w.heap.size, 1, none⟩) (by first | omega | (simp <;> omega)); have c0_2 := hbw.cell (p := ⟨w.heap.size, 2, none⟩) (by first | omega | (simp <;> omega)); have f0_2 := hbw.frozen (p := ⟨w.heap.size, 2, none⟩) (by first | omega | (simp <;> omega)); have c1_0 := hbw.cell (p := ⟨w.heap.size + 1, 0, none⟩) (by first | omega | (simp <;> omega)); have f1_0 := hbw.frozen (p := ⟨w.heap.size + 1, 0, none⟩) (by first | omega | (simp <;> omega)); have c1_1 := hbw.cell (p := ⟨w.heap.size + 1, 1, none⟩) (by first | omega | (simp <;> omega)); have f1_1 := hbw.frozen (p := ⟨w.heap.size + 1, 1, none⟩) (by first | omega | (simp <;> omega)); have c1_2 := hbw.cell (p := ⟨w.heap.size + 1, 2, none⟩) (by first | omega | (simp <;> omega)); have f1_2 := hbw.frozen (p := ⟨w.heap.size + 1, 2, none⟩) (by first | omega | (simp <;> omega))
    have hz0 : w.heap.size < w1.heap.size := (by have := hbw.size; first | omega | (simp at this; omega)); have hy0 : w.heap.size ≠ w1.heap.size := (by omega); have hx0 : w1.heap.size ≠ w.heap.size := (by omega); have hz1 : w.heap.size + 1 < w1.heap.size := (by have := hbw.size; first | omega | (simp at this; omega)); have hy1 : w.heap.size + 1 ≠ w1.heap.size := (by omega); have hx1 : w1.heap.size ≠ w.heap.size + 1 := (by omega)
    go_wp2
    refine bodyPost_ret (v := .tuple #[.agg #[.slice ad l.length c, .int .i64 a', .int .i64 e'], .int .i64 (-((n : Int) / 2) - 1)]) (by simp [results, Try.results103, go_sem, *]) rfl ⟨?_, ?_⟩
    · rw [show -((n / 2 : Nat) : Int) - 1 = -((n : Int) / 2) - 1 by omega]
    · (repeat (first | with_reducible exact Below.refl _ _ | with_reducible refine Bs ?_ | with_reducible refine Ba ?_ | with_reducible refine Bd ?_ | with_reducible refine Bn ?_ | with_reducible refine Bt hbw ?_))
  · rw [unzig, if_neg h1]
    have hb1 : ((n : Int) % 2 == 1) = false := by simp; omega
    have H1 := Lib.hid h1
    clear h1
    go_enter Try.func103, Try.ntmps103
    go_wp2_with fail
    refine (HU.out _ HI.out).mono ?_
    rintro e w1 ⟨rfl, hbw⟩
    have c0_0 := hbw.cell (p := ⟨w.heap.size, 0, none⟩) (by first | omega | (simp <;> omega)); have f0_0 := hbw.frozen (p := ⟨w.heap.size, 0, none⟩) (by first | omega | (simp <;> omega)); have c0_1 := hbw.cell (p := ⟨w.heap.size, 1, none⟩) (by first | omega | (simp <;> omega)); have f0_1 := hbw.frozen (p := ⟨w.heap.size, 1, none⟩) (by first | omega | (simp <;> omega)); have c0_2 := hbw.cell (p := ⟨w.heap.size, 2, none⟩) (by first | omega | (simp <;> omega)); have f0_2 := hbw.frozen (p := ⟨w.heap.size, 2, none⟩) (by first | omega | (simp <;> omega)); have c1_0 := hbw.cell (p := ⟨w.heap.size + 1, 0, none⟩) (by first | omega | (simp <;> omega)); have f1_0 := hbw.frozen (p := ⟨w.heap.size + 1, 0, none⟩) (by first | omega | (simp <;> omega)); have c1_1 := hbw.cell (p := ⟨w.heap.size + 1, 1, none⟩) (by first | omega | (simp <;> omega)); have f1_1 := hbw.frozen (p := ⟨w.heap.size + 1, 1, none⟩) (by first | omega | (simp <;> omega)); have c1_2 := hbw.cell (p := ⟨w.heap.size + 1, 2, none⟩) (by first | omega | (simp <;> omega)); have f1_2 := hbw.frozen (p := ⟨w.heap.size + 1, 2, none⟩) (by first | omega | (simp <;> omega))
    have hz0 : w.heap.size < w1.heap.size := (by have := hbw.size; first | omega | (simp at this; omega)); have hy0 : w.heap.size ≠ w1.heap.size := (by omega); have hx0 : w1.heap.size ≠ w.heap.size := (by omega); have hz1 : w.heap.size + 1 < w1.heap.size := (by have := hbw.size; first | omega | (simp at this; omega)); have hy1 : w.heap.size + 1 ≠ w1.heap.size := (by omega); have hx1 : w1.heap.size ≠ w.heap.size + 1 := (by omega)
    go_wp2
    refine bodyPost_ret (v := .tuple #[.agg #[.slice ad l.length c, .int .i64 a', .int .i64 e'], .int .i64 ((n : Int) / 2)]) (by simp [results, Try.results103, go_sem, *]) rfl ⟨?_, ?_⟩
    · rw [show ((n / 2 : Nat) : Int) = (n : Int) / 2 by omega]
    · (repeat (first | with_reducible exact Below.refl _ _ | with_reducible refine Bs ?_ | with_reducible refine Ba ?_ | with_reducible refine Bd ?_ | with_reducible refine Bn ?_ | with_reducible refine Bt hbw ?_))

set_option maxRecDepth 100000 in
theorem rFail_all (v : Value) (ad : Option Addr) (n c : Nat) (hv : v = .slice ad n c) (a e0 x : Int) (w : World) :
    Calls Try.prog 76 #[.agg #[v, .int .i64 a, .int .i64 e0], .int .i64 x] w fun e w' => e = .returned (.agg #[v, .int .i64 a, .int .i64 (failE e0 x)]) ∧ Below w.heap.size w w' := by
  subst hv
  by_cases he : e0 = 0
  · subst he
    by_cases hx : x = 0
    · subst hx
      rw [failE, if_pos rfl, if_pos rfl]
      go_enter Try.func76, Try.ntmps76
      go_wp2_with (go_at_call 102; refine (rfail_any _ ad n c rfl a 0 211 _).mono ?_; rintro e w1 ⟨rfl, hbw⟩; have c0_0 := hbw.cell (p := ⟨w.heap.size, 0, none⟩) (by first | omega | (simp <;> omega)); have f0_0 := hbw.frozen (p := ⟨w.heap.size, 0, none⟩) (by first | omega | (simp <;> omega)); have c0_1 := hbw.cell (p := ⟨w.heap.size, 1, none⟩) (by first | omega | (simp <;> omega)); have f0_1 := hbw.frozen (p := ⟨w.heap.size, 1, none⟩) (by first | omega | (simp <;> omega)); have c0_2 := hbw.cell (p := ⟨w.heap.size, 2, none⟩) (by first | omega | (simp <;> omega)); have f0_2 := hbw.frozen (p := ⟨w.heap.size, 2, none⟩) (by first | omega | (simp <;> omega)); have c1_0 := hbw.cell (p := ⟨w.heap.size + 1, 0, none⟩) (by first | omega | (simp <;> omega)); have f1_0 := hbw.frozen (p := ⟨w.heap.size + 1, 0, none⟩) (by first | omega | (simp <;> omega)); have c1_1 := hbw.cell (p := ⟨w.heap.size + 1, 1, none⟩) (by first | omega | (simp <;> omega)); have f1_1 := hbw.frozen (p := ⟨w.heap.size + 1, 1, none⟩) (by first | omega | (simp <;> omega)); have c1_2 := hbw.cell (p := ⟨w.heap.size + 1, 2, none⟩) (by first | omega | (simp <;> omega)); have f1_2 := hbw.frozen (p := ⟨w.heap.size + 1, 2, none⟩) (by first | omega | (simp <;> omega)))
      refine bodyPost_ret (v := .agg #[.slice ad n c, .int .i64 a, .int .i64 211]) (by simp [results, Try.results76, go_sem, *]) rfl ⟨rfl, ?_⟩
      (repeat (first | with_reducible exact Below.refl _ _ | with_reducible refine Bs ?_ | with_reducible refine Ba ?_ | with_reducible refine Bd ?_ | with_reducible refine Bn ?_ | with_reducible refine Bt hbw ?_))
    · rw [failE, if_pos rfl, if_neg hx]
      have hxb : (x == 0) = false := by simpa using hx
      clear hx
      go_enter Try.func76, Try.ntmps76
      go_wp2_with (go_at_call 102; refine (rfail_any _ ad n c rfl a 0 x _).mono ?_; rintro e w1 ⟨rfl, hbw⟩; have c0_0 := hbw.cell (p := ⟨w.heap.size, 0, none⟩) (by first | omega | (simp <;> omega)); have f0_0 := hbw.frozen (p := ⟨w.heap.size, 0, none⟩) (by first | omega | (simp <;> omega)); have c0_1 := hbw.cell (p := ⟨w.heap.size, 1, none⟩) (by first | omega | (simp <;> omega)); have f0_1 := hbw.frozen (p := ⟨w.heap.size, 1, none⟩) (by first | omega | (simp <;> omega)); have c0_2 := hbw.cell (p := ⟨w.heap.size, 2, none⟩) (by first | omega | (simp <;> omega)); have f0_2 := hbw.frozen (p := ⟨w.heap.size, 2, none⟩) (by first | omega | (simp <;> omega)); have c1_0 := hbw.cell (p := ⟨w.heap.size + 1, 0, none⟩) (by first | omega | (simp <;> omega)); have f1_0 := hbw.frozen (p := ⟨w.heap.size + 1, 0, none⟩) (by first | omega | (simp <;> omega)); have c1_1 := hbw.cell (p := ⟨w.heap.size + 1, 1, none⟩) (by first | omega | (simp <;> omega)); have f1_1 := hbw.frozen (p := ⟨w.heap.size + 1, 1, none⟩) (by first | omega | (simp <;> omega)); have c1_2 := hbw.cell (p := ⟨w.heap.size + 1, 2, none⟩) (by first | omega | (simp <;> omega)); have f1_2 := hbw.frozen (p := ⟨w.heap.size + 1, 2, none⟩) (by first | omega | (simp <;> omega)))
      refine bodyPost_ret (v := .agg #[.slice ad n c, .int .i64 a, .int .i64 x]) (by simp [results, Try.results76, go_sem, *]) rfl ⟨rfl, ?_⟩
      (repeat (first | with_reducible exact Below.refl _ _ | with_reducible refine Bs ?_ | with_reducible refine Ba ?_ | with_reducible refine Bd ?_ | with_reducible refine Bn ?_ | with_reducible refine Bt hbw ?_))
  · rw [failE, if_neg he]
    have hne : (e0 != 0) = true := by simpa using he
    clear he
    go_enter Try.func76, Try.ntmps76
    go_wp2
    refine bodyPost_ret (v := .agg #[.slice ad n c, .int .i64 a, .int .i64 e0]) (by simp [results, Try.results76, go_sem]) rfl ⟨rfl, ?_⟩
    (repeat (first | with_reducible exact Below.refl _ _ | with_reducible refine Bs ?_ | with_reducible refine Ba ?_ | with_reducible refine Bd ?_ | with_reducible refine Bn ?_))

end Go.Proofs.Ytdbonlpkmncggaa

namespace Go.Proofs.Ytdbonlpkmncggaa

/-- The bytes of l from a up to a' are b. -/
def Got (l : List Int) (a a' : Nat) (b : List Int) : Prop := a ≤ a' ∧ a' ≤ l.length ∧ b = (l.drop a).take (a' - a)

theorem Got.refl {l : List Int} {a : Nat} (h : a ≤ l.length) : Got l a a [] := ⟨Nat.le_refl _, h, by simp⟩

theorem Got.trans {l : List Int} {a b c : Nat} {x y : List Int} (h : Got l a b x) (k : Got l b c y) : Got l a c (x ++ y) := by
  obtain ⟨h1, h2, rfl⟩ := h
  obtain ⟨k1, k2, rfl⟩ := k
  refine ⟨by omega, k2, ?_⟩
  have : l.drop b = (l.drop a).drop (b - a) := by rw [List.drop_drop]; congr 1; omega
  rw [this, ← List.take_add]
  congr 1
  omega

theorem Got.start {l : List Int} {a : Nat} {b : List Int} (h : Got l 0 a b) : b = l.take a := by
  obtain ⟨_, _, h⟩ := h
  simpa using h

theorem rdN'_le {l : List Int} (hb : AllB l) {a : Nat} (ha : a ≤ l.length) (e most : Int) : (rdN' l a e most).2.1 ≤ l.length := by
  have hf := rdN'_facts l hb a e most
  by_cases h2 : (rdN' l a e most).2.2 = 0
  · exact (hf.2 h2).2.1
  · rw [(hf.1 h2).2]; exact ha

theorem gotN {l : List Int} (hb : AllB l) {a : Nat} {e most : Int} (h : (rdN' l a e most).2.2 = 0) : e = 0 ∧ Got l a (rdN' l a e most).2.1 (putsU (rdN' l a e most).1) ∧ ((rdN' l a e most).1 : Int) ≤ most := by
  by_cases he : e = 0
  · subst he
    refine ⟨rfl, ?_⟩
    rw [rdN', if_pos rfl] at h ⊢
    unfold rdN at h ⊢
    by_cases h1 : (rdU l a).2.2 = 0
    · rw [if_neg (by omega)] at h ⊢
      by_cases hm : most < 0 ∨ most < ((rdU l a).1 : Int)
      · rw [if_pos hm] at h; simp at h
      · rw [if_neg hm]
        obtain ⟨g1, g2, g3, g4⟩ := rdU_ok l hb a h1
        exact ⟨⟨by omega, g2, g4⟩, by omega⟩
    · rw [if_pos h1] at h; exact absurd h h1
  · rw [rdN', if_neg he] at h
    exact absurd h he

theorem rdI_64 (l : List Int) (hb : AllB l) (a : Nat) : Ok64 (rdI l a).1 := by
  have hn := (rdU'_facts l hb a 0).2
  rw [rdU', if_pos rfl] at hn
  show Ok64 (unzig (rdU l a).1)
  unfold Ok64 unzig
  split <;> omega

theorem rdI'_le {l : List Int} (hb : AllB l) {a : Nat} (ha : a ≤ l.length) (e : Int) : (rdI' l a e).2.1 ≤ l.length := by
  unfold rdI'
  split
  · have hf := rdI_facts l hb a
    by_cases h : (rdI l a).2.2 = 0
    · exact (hf.2 h).2
    · rw [(hf.1 h).2]; exact ha
  · exact ha

theorem rdI'_64 {l : List Int} (hb : AllB l) (a : Nat) (e : Int) : Ok64 (rdI' l a e).1 := by
  unfold rdI'
  split
  · exact rdI_64 l hb a
  · show Ok64 0
    decide

theorem gotI {l : List Int} (hb : AllB l) {a : Nat} {e : Int} (h : (rdI' l a e).2.2 = 0) : e = 0 ∧ Got l a (rdI' l a e).2.1 (putsI (rdI' l a e).1) := by
  by_cases he : e = 0
  · subst he
    refine ⟨rfl, ?_⟩
    rw [rdI', if_pos rfl] at h ⊢
    obtain ⟨g1, g2, g3, g4⟩ := rdU_ok l hb a h
    have e1 : (rdI l a).2.1 = (rdU l a).2.1 := rfl
    refine ⟨by omega, by rw [e1]; exact g2, ?_⟩
    show putsU (zig (unzig (rdU l a).1)) = _
    rw [zig_unzig]
    exact g4
  · rw [rdI', if_neg he] at h
    exact absurd h he

/-- So many numbers are read, one by one. -/
def rdXs (l : List Int) : Nat → Nat → Int → List Int × Nat × Int
  | 0, a, e => ([], a, e)
  | n + 1, a, e => ((rdXs l n a e).1 ++ [(rdI' l (rdXs l n a e).2.1 (rdXs l n a e).2.2).1], (rdI' l (rdXs l n a e).2.1 (rdXs l n a e).2.2).2)

theorem rdXs_next {l : List Int} {n a : Nat} {e : Int} {xs : List Int} {a1 : Nat} {e1 : Int} {x : Int} {a2 : Nat} {e2 : Int} (h : rdXs l n a e = (xs, a1, e1)) (k : rdI' l a1 e1 = (x, a2, e2)) : rdXs l (n + 1) a e = (xs ++ [x], a2, e2) := by
  rw [rdXs, h]
  dsimp only
  rw [k]

theorem rdXs_le {l : List Int} (hb : AllB l) {a : Nat} (ha : a ≤ l.length) (e : Int) : ∀ n, (rdXs l n a e).2.1 ≤ l.length
  | 0 => ha
  | n + 1 => rdI'_le hb (rdXs_le hb ha e n) _

theorem rdXs_len (l : List Int) (a : Nat) (e : Int) : ∀ n, (rdXs l n a e).1.length = n
  | 0 => rfl
  | n + 1 => by rw [rdXs, List.length_append, rdXs_len l a e n]; rfl

theorem putsIs_snoc (xs : List Int) (x : Int) : putsIs (xs ++ [x]) = putsIs xs ++ putsI x := by
  induction xs with
  | nil => simp [putsIs]
  | cons a l ih => simp [putsIs, ih]

theorem rdXs_got {l : List Int} (hb : AllB l) {a : Nat} {e : Int} (ha : a ≤ l.length) : ∀ n, (rdXs l n a e).2.2 = 0 → e = 0 ∧ Got l a (rdXs l n a e).2.1 (putsIs (rdXs l n a e).1)
  | 0, h => ⟨h, Got.refl ha⟩
  | n + 1, h => by
    obtain ⟨g1, g2⟩ := gotI hb (show (rdI' l (rdXs l n a e).2.1 (rdXs l n a e).2.2).2.2 = 0 from h)
    obtain ⟨k1, k2⟩ := rdXs_got hb ha n g1
    refine ⟨k1, ?_⟩
    show Got l a _ (putsIs ((rdXs l n a e).1 ++ [_]))
    rw [putsIs_snoc]
    exact k2.trans g2

theorem putsU_all (n : Nat) : AllB (putsU n) := by
  intro x hx
  unfold putsU at hx
  split at hx
  · simp at hx; omega
  · simp only [List.mem_cons] at hx
    rcases hx with rfl | hx
    · have : (up n).length ≤ 8 := upF_length 8 n
      omega
    · exact up_byte n x hx

theorem putsIs_all : ∀ l : List Int, AllB (putsIs l) := by
  intro l
  induction l with
  | nil => intro x hx; simp [putsIs] at hx
  | cons i l ih =>
    intro x hx
    simp only [putsIs, List.mem_append] at hx
    rcases hx with hx | hx
    · exact putsU_all _ x hx
    · exact ih x hx

theorem rdI_puts (pre rest : List Int) (i : Int) (h : Ok64 i) : rdI (pre ++ (putsI i ++ rest)) pre.length = (i, pre.length + (putsI i).length, 0) := by
  have := rdU_puts pre rest (zig i) (by have := zig_lt h; omega)
  unfold rdI
  rw [show pre ++ (putsI i ++ rest) = pre ++ (putsU (zig i) ++ rest) from rfl, this]
  simp only [unzig_zig]; rfl

theorem rdN_puts (pre rest : List Int) (n : Nat) (h : n < 18446744073709551616) (most : Int) (hm : (n : Int) ≤ most) : rdN (pre ++ (putsU n ++ rest)) pre.length most = (n, pre.length + (putsU n).length, 0) := by
  unfold rdN
  rw [rdU_puts pre rest n h]
  simp only
  rw [if_neg (by omega), if_neg (by omega)]
end Go.Proofs.Ytdbonlpkmncggaa

namespace Go.Proofs.Ytdbonlpkmncggaa
open Go.RowKit

/-- A node, by its numbers. -/
structure NodeP where
  coef : List Int
  at_ : Int
  left : Int
  right : Int
  size : Int

/-- A tree, by its numbers. -/
structure TreeP where
  dim : Int
  nodes : List NodeP

def partsB (c : List Int) (dim : Int) : Bool :=
  decide (1 ≤ dim) && decide (dim ≤ 8) && decide ((c.length : Int) = dim) && (c.all fun x => decide (-4 ≤ x) && decide (x ≤ 4)) && c.any fun x => decide (x ≠ 0)
def cutB (c : List Int) (a dim : Int) : Bool := decide (-137438953472 ≤ a) && decide (a ≤ 137438953472) && partsB c dim
def leafB (n : NodeP) : Bool := decide (n.left = 0) && decide (n.right = 0) && decide (n.coef.length = 0) && decide (n.at_ = 0) && decide (1 ≤ n.size)

def dotI : List Int → List Int → Int
  | c :: cs, x :: xs => c * x + dotI cs xs
  | _, _ => 0

/-- The nodes of a part of a tree: where it begins, where it ends, how high it is, how many points it has. -/
inductive Sub (t : TreeP) : Nat → Nat → Nat → Int → Prop
  | leaf {i : Nat} {n : NodeP} : t.nodes[i]? = some n → leafB n = true → Sub t i (i + 1) 0 n.size
  | node {i m e a b : Nat} {x y : Int} {n : NodeP} : t.nodes[i]? = some n → n.left = (i : Int) + 1 → cutB n.coef n.at_ t.dim = true → Sub t (i + 1) m a x → n.right = (m : Int) → Sub t m e b y →
      n.size = x + y → Sub t i e (1 + max a b) n.size

theorem leafB_is {n : NodeP} (h : leafB n = true) : n.left = 0 ∧ n.right = 0 ∧ n.coef = [] ∧ n.at_ = 0 ∧ 1 ≤ n.size := by
  unfold leafB at h
  simp only [Bool.and_eq_true, decide_eq_true_eq] at h
  exact ⟨h.1.1.1.1, h.1.1.1.2, List.eq_nil_of_length_eq_zero h.1.1.2, h.1.2, h.2⟩

theorem Sub.lt {t : TreeP} {i e h : Nat} {s : Int} (q : Sub t i e h s) : i < e ∧ e ≤ t.nodes.length := by
  induction q with
  | leaf hn _ => exact ⟨by omega, (List.getElem?_eq_some_iff.1 hn).1⟩
  | node hn _ _ _ _ _ _ ih1 ih2 => omega

theorem Sub.at_ {t : TreeP} {i e h : Nat} {s : Int} (q : Sub t i e h s) : ∃ n, t.nodes[i]? = some n ∧ n.size = s := by
  cases q with
  | leaf hn _ => exact ⟨_, hn, rfl⟩
  | node hn _ _ _ _ _ _ => exact ⟨_, hn, rfl⟩

theorem Sub.pos {t : TreeP} {i e h : Nat} {s : Int} (q : Sub t i e h s) : 1 ≤ s := by
  induction q with
  | leaf hn hl => exact (leafB_is hl).2.2.2.2
  | node hn _ _ _ _ _ hs ih1 ih2 => omega

theorem Sub.room {t : TreeP} {i e h : Nat} {s : Int} (q : Sub t i e h s) : (e : Int) + 1 ≤ i + 2 * s := by
  induction q with
  | leaf hn hl => have := (leafB_is hl).2.2.2.2; omega
  | node hn _ _ _ _ _ hs ih1 ih2 => omega

theorem Sub.high {t : TreeP} {i e h : Nat} {s : Int} (q : Sub t i e h s) : h + 1 + i ≤ e := by
  induction q with
  | leaf hn hl => omega
  | node hn _ _ _ _ _ hs ih1 ih2 => omega

theorem Sub.same {t : TreeP} {i e h : Nat} {s : Int} (q : Sub t i e h s) : ∀ {e' h' : Nat} {s' : Int}, Sub t i e' h' s' → e = e' ∧ h = h' ∧ s = s' := by
  induction q with
  | leaf hn hl =>
    intro e' h' s' q'
    cases q' with
    | leaf hn' _ =>
      rw [hn] at hn'
      injection hn' with hn'
      subst hn'
      exact ⟨rfl, rfl, rfl⟩
    | node hn' hl' =>
      rw [hn] at hn'
      injection hn' with hn'
      subst hn'
      have := (leafB_is hl).1
      omega
  | @node i m e a b x y n hn hl hc q1 hr q2 hs ih1 ih2 =>
    intro e' h' s' q'
    cases q' with
    | leaf hn' hl' =>
      rw [hn] at hn'
      injection hn' with hn'
      subst hn'
      have := (leafB_is hl').1
      omega
    | @node _ m' _ _ _ _ _ n' hn' _ _ q1' hr' q2' hs' =>
      rw [hn] at hn'
      injection hn' with hn'
      subst hn'
      obtain ⟨e1, e2, e3⟩ := ih1 q1'
      have hm : m = m' := by omega
      subst hm
      obtain ⟨f1, f2, f3⟩ := ih2 q2'
      subst e2 f1 f2
      exact ⟨rfl, rfl, rfl⟩

/-- Each node of a part is the first one of a part, no larger. -/
theorem Sub.parts {t : TreeP} {i e h : Nat} {s : Int} (q : Sub t i e h s) : ∀ j, i ≤ j → j < e → ∃ e' h' s', Sub t j e' h' s' ∧ e' ≤ e ∧ h' ≤ h ∧ s' ≤ s := by
  induction q with
  | @leaf i n hn hl =>
    intro j h1 h2
    obtain rfl : j = i := by omega
    exact ⟨_, _, _, .leaf hn hl, by omega, by omega, by omega⟩
  | @node i m e a b x y n hn hl hc q1 hr q2 hs ih1 ih2 =>
    intro j h1 h2
    have p1 := q1.pos; have p2 := q2.pos
    have l1 := q1.lt; have l2 := q2.lt
    rcases Nat.lt_or_ge j (i + 1) with hj | hj
    · obtain rfl : j = i := by omega
      exact ⟨_, _, _, .node hn hl hc q1 hr q2 hs, by omega, by omega, by omega⟩
    · rcases Nat.lt_or_ge j m with hj2 | hj2
      · obtain ⟨e', h', s', q, g1, g2, g3⟩ := ih1 j hj hj2
        exact ⟨e', h', s', q, by omega, by omega, by omega⟩
      · obtain ⟨e', h', s', q, g1, g2, g3⟩ := ih2 j hj2 h2
        exact ⟨e', h', s', q, by omega, by omega, by omega⟩

/-- What a node at a place must be, where it is the first one of a part. -/
theorem Sub.inv {t : TreeP} {i e h : Nat} {s : Int} {n : NodeP} (q : Sub t i e h s) (hn : t.nodes[i]? = some n) : (leafB n = true ∧ e = i + 1 ∧ h = 0 ∧ s = n.size) ∨
    ∃ m a b x y, n.left = (i : Int) + 1 ∧ cutB n.coef n.at_ t.dim = true ∧ Sub t (i + 1) m a x ∧ n.right = (m : Int) ∧ Sub t m e b y ∧ n.size = x + y ∧ h = 1 + max a b ∧ s = n.size := by
  cases q with
  | leaf hn' hl =>
    rw [hn] at hn'
    injection hn' with hn'
    subst hn'
    exact .inl ⟨hl, rfl, rfl, rfl⟩
  | @node _ m _ a b x y _ hn' hl hc q1 hr q2 hs =>
    rw [hn] at hn'
    injection hn' with hn'
    subst hn'
    exact .inr ⟨m, a, b, x, y, hl, hc, q1, hr, q2, hs, rfl, rfl⟩

def logI (n : Int) : Nat := Lib.bitLen (n.toNat - 1)

/-- Is it a tree? -/
def IsTree (t : TreeP) : Prop := 1 ≤ t.dim ∧ t.dim ≤ 8 ∧ ∃ h s, Sub t 0 t.nodes.length h s ∧ s ≤ 64 ∧ h ≤ logI s

noncomputable def treeB (t : TreeP) : Bool := @decide (IsTree t) (Classical.propDecidable _)

theorem treeB_true {t : TreeP} : treeB t = true ↔ IsTree t := by unfold treeB; simp
theorem treeB_false {t : TreeP} : treeB t = false ↔ ¬ IsTree t := by unfold treeB; simp

theorem logI_le {n : Int} (h : n ≤ 64) : logI n ≤ 6 := by
  unfold logI
  have : n.toNat - 1 ≤ 63 := by omega
  generalize n.toNat - 1 = k at *
  have : ∀ k : Fin 64, Lib.bitLen k.val ≤ 6 := by decide
  exact this ⟨k, by omega⟩

theorem IsTree.len {t : TreeP} (h : IsTree t) : 1 ≤ t.nodes.length ∧ t.nodes.length ≤ 127 := by
  obtain ⟨_, _, g, s, q, h1, h2⟩ := h
  have := q.room; have := q.lt
  omega


/-- What a node of a tree that is no leaf must be. -/
theorem IsTree.inner {t : TreeP} (h : IsTree t) {i : Nat} {n : NodeP} (hn : t.nodes[i]? = some n) (hl : leafB n = false) :
    ∃ m e a b x y, n.left = (i : Int) + 1 ∧ cutB n.coef n.at_ t.dim = true ∧ Sub t (i + 1) m a x ∧ n.right = (m : Int) ∧ Sub t m e b y ∧ n.size = x + y ∧ ∀ r, t.nodes[0]? = some r → x ≤ r.size ∧ y ≤ r.size := by
  obtain ⟨_, _, g, s, q, h1, h2⟩ := h
  obtain ⟨e', h', s', q', g1, g2, g3⟩ := q.parts i (by omega) (List.getElem?_eq_some_iff.1 hn).1
  rcases q'.inv hn with ⟨hl', _⟩ | ⟨m, a, b, x, y, k1, k2, k3, k4, k5, k6, k7, k8⟩
  · rw [hl] at hl'; cases hl'
  · refine ⟨m, e', a, b, x, y, k1, k2, k3, k4, k5, k6, fun r hr => ?_⟩
    have := k3.pos; have := k5.pos
    obtain ⟨r', hr', hs⟩ := q.at_
    rw [hr] at hr'
    injection hr' with hr'
    subst hr'
    omega

theorem IsTree.root {t : TreeP} (h : IsTree t) {r : NodeP} (hr : t.nodes[0]? = some r) : 1 ≤ r.size ∧ r.size ≤ 64 := by
  obtain ⟨_, _, g, s, q, h1, h2⟩ := h
  obtain ⟨r', hr', hs⟩ := q.at_
  rw [hr] at hr'
  injection hr' with hr'
  subst hr'
  have := q.pos
  omega

theorem isTree_of {t : TreeP} {e h : Nat} {s : Int} {r : NodeP} (d1 : 1 ≤ t.dim) (d2 : t.dim ≤ 8) (hr : t.nodes[0]? = some r) (hs : r.size ≤ 64) (q : Sub t 0 e h s) :
    IsTree t ↔ e = t.nodes.length ∧ h ≤ logI r.size := by
  obtain ⟨r', hr', hs'⟩ := q.at_
  rw [hr] at hr'
  injection hr' with hr'
  subst hr'
  constructor
  · rintro ⟨_, _, g, s', q', h1, h2⟩
    obtain ⟨rfl, rfl, rfl⟩ := q.same q'
    exact ⟨rfl, by rw [hs']; exact h2⟩
  · rintro ⟨rfl, h2⟩
    exact ⟨d1, d2, h, s, q, by omega, by rw [← hs']; exact h2⟩

/-- The node that a vector comes to is on the left. -/
def leftB (n : NodeP) (x : List Int) : Bool := decide (dotI n.coef x < n.at_)

/-- The nodes on the way of a vector. -/
def wayT (t : TreeP) (x : List Int) : Nat → Nat → List Nat
  | 0, i => [i]
  | f + 1, i => match t.nodes[i]? with
    | none => [i]
    | some n => if n.left = 0 then [i] else i :: wayT t x f (if leftB n x then i + 1 else n.right.toNat)

theorem wayT_leaf {t : TreeP} {x : List Int} {i : Nat} {n : NodeP} (hn : t.nodes[i]? = some n) (hl : n.left = 0) (f : Nat) : wayT t x f i = [i] := by
  cases f with
  | zero => rfl
  | succ f => simp [wayT, hn, hl]

theorem wayT_node {t : TreeP} {x : List Int} {i : Nat} {n : NodeP} (hn : t.nodes[i]? = some n) (hl : ¬ n.left = 0) (f : Nat) :
    wayT t x (f + 1) i = i :: wayT t x f (if leftB n x then i + 1 else n.right.toNat) := by
  simp [wayT, hn, hl]

theorem Sub.way {t : TreeP} {i e h : Nat} {s : Int} (q : Sub t i e h s) (x : List Int) : ∀ f, h ≤ f → wayT t x f i = wayT t x h i ∧ (wayT t x h i).length ≤ h + 1 := by
  induction q with
  | leaf hn hl =>
    intro f hf
    rw [wayT_leaf hn (leafB_is hl).1, wayT_leaf hn (leafB_is hl).1]
    simp
  | @node i m e a b x' y n hn hl hc q1 hr q2 hs ih1 ih2 =>
    intro f hf
    obtain ⟨f, rfl⟩ : ∃ g, f = g + 1 := ⟨f - 1, by omega⟩
    have hl0 : ¬ n.left = 0 := by omega
    have hmt : n.right.toNat = m := by omega
    rw [Nat.add_comm 1 (max a b), wayT_node hn hl0, wayT_node hn hl0, hmt]
    have i1 := ih1 f (by omega); have i2 := ih1 (max a b) (by omega)
    have j1 := ih2 f (by omega); have j2 := ih2 (max a b) (by omega)
    split
    · rw [i1.1, i2.1]
      refine ⟨rfl, ?_⟩
      simp only [List.length_cons]
      omega
    · rw [j1.1, j2.1]
      refine ⟨rfl, ?_⟩
      simp only [List.length_cons]
      omega

/-- The nodes of a part, no deeper than a bound; each leaf is small. -/
inductive SubD (t : TreeP) : Nat → Nat → Nat → Int → Prop
  | leaf {d i : Nat} {n : NodeP} : t.nodes[i]? = some n → leafB n = true → n.size ≤ 64 → SubD t (d + 1) i (i + 1) n.size
  | node {d i m e : Nat} {x y : Int} {n : NodeP} : t.nodes[i]? = some n → n.left = (i : Int) + 1 → cutB n.coef n.at_ t.dim = true → SubD t d (i + 1) m x → n.right = (m : Int) → SubD t d m e y →
      n.size = x + y → SubD t (d + 1) i e n.size

theorem SubD.sub {t : TreeP} {d i e : Nat} {s : Int} (q : SubD t d i e s) : ∃ h, h < d ∧ Sub t i e h s := by
  induction q with
  | leaf hn hl _ => exact ⟨0, by omega, .leaf hn hl⟩
  | node hn hl hc _ hr _ hs ih1 ih2 =>
    obtain ⟨a, ha, q1⟩ := ih1
    obtain ⟨b, hb, q2⟩ := ih2
    exact ⟨1 + max a b, by omega, .node hn hl hc q1 hr q2 hs⟩

theorem Sub.subD {t : TreeP} {i e h : Nat} {s : Int} (q : Sub t i e h s) (hs : s ≤ 64) : ∀ d, h < d → SubD t d i e s := by
  induction q with
  | leaf hn hl =>
    intro d hd
    obtain ⟨d, rfl⟩ : ∃ k, d = k + 1 := ⟨d - 1, by omega⟩
    exact .leaf hn hl hs
  | node hn hl hc q1 hr q2 hs' ih1 ih2 =>
    intro d hd
    obtain ⟨d, rfl⟩ : ∃ k, d = k + 1 := ⟨d - 1, by omega⟩
    have := q1.pos; have := q2.pos
    exact .node hn hl hc (ih1 (by omega) d (by omega)) hr (ih2 (by omega) d (by omega)) hs'

theorem SubD.bd {t : TreeP} {d i e : Nat} {s : Int} (q : SubD t d i e s) : 1 ≤ s ∧ s ≤ 64 * (2 : Int) ^ d := by
  induction q with
  | @leaf d i n hn hl h64 =>
    have := (leafB_is hl).2.2.2.2
    have : (1 : Int) ≤ 2 ^ (d + 1) := by have := Nat.two_pow_pos (d + 1); exact_mod_cast this
    omega
  | @node d i m e x y n hn hl hc _ hr _ hs ih1 ih2 =>
    rw [Int.pow_succ]
    omega

theorem SubD.small {t : TreeP} {d i e : Nat} {s : Int} (q : SubD t d i e s) (hd : d ≤ 6) : 1 ≤ s ∧ s ≤ 4096 := by
  have h := q.bd
  have h2 := Nat.pow_le_pow_right (show 0 < 2 by omega) hd
  have h3 : ((2 ^ d : Nat) : Int) ≤ 64 := by omega
  rw [Int.natCast_pow] at h3
  have h4 : ((2 : Nat) : Int) = 2 := rfl
  rw [h4] at h3
  omega

theorem SubD.at_ {t : TreeP} {d i e : Nat} {s : Int} (q : SubD t d i e s) : ∃ n, t.nodes[i]? = some n ∧ n.size = s := by
  obtain ⟨_, _, q⟩ := q.sub
  exact q.at_

theorem SubD.same {t : TreeP} {d i e e' : Nat} {s s' : Int} (q : SubD t d i e s) (q' : SubD t d i e' s') : e = e' ∧ s = s' := by
  obtain ⟨_, _, q⟩ := q.sub
  obtain ⟨_, _, q'⟩ := q'.sub
  obtain ⟨h1, _, h3⟩ := q.same q'
  exact ⟨h1, h3⟩

open Classical in
/-- Where a part ends (-1: it is none). -/
noncomputable def endV (t : TreeP) (d i : Nat) : Int := if h : ∃ e s, SubD t d i e s then ((Classical.choose h : Nat) : Int) else -1

theorem endV_yes {t : TreeP} {d i e : Nat} {s : Int} (q : SubD t d i e s) : endV t d i = e := by
  have h : ∃ e s, SubD t d i e s := ⟨e, s, q⟩
  unfold endV
  rw [dif_pos h]
  obtain ⟨s', q'⟩ := Classical.choose_spec h
  exact congrArg _ (q'.same q).1

theorem endV_no {t : TreeP} {d i : Nat} (q : ∀ e s, ¬ SubD t d i e s) : endV t d i = -1 := by
  unfold endV
  rw [dif_neg (fun ⟨e, s, h⟩ => q e s h)]

/-- What a node that begins a part must be. -/
theorem SubD.inv {t : TreeP} {d i e : Nat} {s : Int} {n : NodeP} (q : SubD t (d + 1) i e s) (hn : t.nodes[i]? = some n) : (leafB n = true ∧ n.size ≤ 64 ∧ e = i + 1) ∨
    ∃ m x y, n.left = (i : Int) + 1 ∧ cutB n.coef n.at_ t.dim = true ∧ SubD t d (i + 1) m x ∧ n.right = (m : Int) ∧ SubD t d m e y ∧ n.size = x + y := by
  cases q with
  | leaf hn' hl h64 =>
    rw [hn] at hn'
    injection hn' with hn'
    subst hn'
    exact .inl ⟨hl, h64, rfl⟩
  | @node _ _ m _ x y _ hn' hl hc q1 hr q2 hs =>
    rw [hn] at hn'
    injection hn' with hn'
    subst hn'
    exact .inr ⟨m, x, y, hl, hc, q1, hr, q2, hs⟩

theorem isTree_end {t : TreeP} {r : NodeP} (d1 : 1 ≤ t.dim) (d2 : t.dim ≤ 8) (hr : t.nodes[0]? = some r) (hs : r.size ≤ 64) :
    IsTree t ↔ endV t (logI r.size + 1) 0 = (t.nodes.length : Int) := by
  constructor
  · rintro ⟨_, _, h, s, q, h1, h2⟩
    obtain ⟨r', hr', hs'⟩ := q.at_
    rw [hr] at hr'
    injection hr' with hr'
    subst hr'
    exact endV_yes (q.subD h1 _ (by rw [hs']; omega))
  · intro h
    by_cases hq : ∃ e s, SubD t (logI r.size + 1) 0 e s
    · obtain ⟨e, s, q⟩ := hq
      rw [endV_yes q] at h
      obtain ⟨g, hg, q⟩ := q.sub
      obtain ⟨r', hr', hs'⟩ := q.at_
      rw [hr] at hr'
      injection hr' with hr'
      subst hr'
      have : e = t.nodes.length := by omega
      subst this
      exact ⟨d1, d2, g, s, q, by omega, by rw [← hs']; omega⟩
    · rw [endV_no (fun e s q => hq ⟨e, s, q⟩)] at h
      omega
end Go.Proofs.Ytdbonlpkmncggaa

namespace Go.Proofs.Ytdbonlpkmncggaa

/-- What is read: nodes, with what comes of them. -/
inductive BT where
  | leaf (s : Nat)
  | node (c : List Int) (a : Int) (l r : BT)

namespace BT
def cnt : BT → Nat
  | leaf _ => 1
  | node _ _ l r => 1 + l.cnt + r.cnt
def siz : BT → Int
  | leaf s => s
  | node _ _ l r => l.siz + r.siz
def flat : BT → Nat → List NodeP
  | leaf s, _ => [⟨[], 0, 0, 0, s⟩]
  | node c a l r, p => ⟨c, a, (p : Int) + 1, ((p + 1 + l.cnt : Nat) : Int), l.siz + r.siz⟩ :: (l.flat (p + 1) ++ r.flat (p + 1 + l.cnt))
def raw : BT → Nat → List NodeP
  | leaf s, _ => [⟨[], 0, 0, 0, s⟩]
  | node c a l r, p => ⟨c, a, (p : Int) + 1, ((p + 1 + l.cnt : Nat) : Int), 0⟩ :: (l.raw (p + 1) ++ r.raw (p + 1 + l.cnt))
def enc : BT → List Int
  | leaf s => putsU s
  | node c a l r => 0 :: (putsIs c ++ putsI a) ++ (l.enc ++ r.enc)

theorem cnt_pos : ∀ T : BT, 1 ≤ T.cnt
  | leaf _ => Nat.le_refl _
  | node _ _ _ _ => by unfold cnt; omega

theorem flat_len : ∀ (T : BT) (p : Nat), (T.flat p).length = T.cnt
  | leaf _, _ => rfl
  | node c a l r, p => by
    rw [flat, List.length_cons, List.length_append, flat_len l, flat_len r, cnt]
    omega

theorem raw_len : ∀ (T : BT) (p : Nat), (T.raw p).length = T.cnt
  | leaf _, _ => rfl
  | node c a l r, p => by
    rw [raw, List.length_cons, List.length_append, raw_len l, raw_len r, cnt]
    omega
end BT

/-- The bytes of a node. -/
def encN (n : NodeP) : List Int := if n.left = 0 then putsU n.size.toNat else 0 :: (putsIs n.coef ++ putsI n.at_)

theorem BT.flat_enc : ∀ (T : BT) (p : Nat), (T.flat p).flatMap encN = T.enc
  | leaf s, _ => by
    show encN ⟨[], 0, 0, 0, s⟩ ++ [] = putsU s
    rw [List.append_nil]
    unfold encN
    rw [if_pos rfl]
    simp
  | node c a l r, p => by
    rw [flat, List.flatMap_cons, List.flatMap_append, flat_enc l, flat_enc r]
    unfold encN
    rw [if_neg (show ¬ ((p : Int) + 1) = 0 by omega)]
    rfl

/-- What is read from a place on: so many levels may come. -/
def rdB (l : List Int) (d : Nat) : Nat → Nat → Option BT × Nat × Int
  | 0, a => (none, a, 211)
  | h + 1, a =>
    if (rdN' l a 0 64).2.2 ≠ 0 then (none, (rdN' l a 0 64).2.1, (rdN' l a 0 64).2.2) else
    if (rdN' l a 0 64).1 ≠ 0 then (some (.leaf (rdN' l a 0 64).1), (rdN' l a 0 64).2.1, 0) else
    if (rdI' l (rdXs l d (rdN' l a 0 64).2.1 0).2.1 (rdXs l d (rdN' l a 0 64).2.1 0).2.2).2.2 ≠ 0 then (none, (rdI' l (rdXs l d (rdN' l a 0 64).2.1 0).2.1 (rdXs l d (rdN' l a 0 64).2.1 0).2.2).2.1, (rdI' l (rdXs l d (rdN' l a 0 64).2.1 0).2.1 (rdXs l d (rdN' l a 0 64).2.1 0).2.2).2.2) else
    match rdB l d h (rdI' l (rdXs l d (rdN' l a 0 64).2.1 0).2.1 (rdXs l d (rdN' l a 0 64).2.1 0).2.2).2.1 with
    | (none, p, e) => (none, p, e)
    | (some L, p, _) => match rdB l d h p with
      | (none, p', e) => (none, p', e)
      | (some R, p', _) => (some (.node (rdXs l d (rdN' l a 0 64).2.1 0).1 (rdI' l (rdXs l d (rdN' l a 0 64).2.1 0).2.1 (rdXs l d (rdN' l a 0 64).2.1 0).2.2).1 L R), p', 0)

theorem rdB_bad {l : List Int} {d h a s p : Nat} {e : Int} (h1 : rdN' l a 0 64 = (s, p, e)) (he : e ≠ 0) : rdB l d (h + 1) a = (none, p, e) := by
  unfold rdB
  rw [h1]
  exact if_pos he

theorem rdB_leaf {l : List Int} {d h a s p : Nat} (h1 : rdN' l a 0 64 = (s, p, 0)) (hs : s ≠ 0) : rdB l d (h + 1) a = (some (.leaf s), p, 0) := by
  unfold rdB
  rw [h1]
  show (if (0 : Int) ≠ 0 then _ else if s ≠ 0 then _ else _) = _
  rw [if_neg (by simp), if_pos hs]

theorem rdB_node {l : List Int} {d h a p p1 p2 : Nat} {c : List Int} {e1 e2 x : Int} (h1 : rdN' l a 0 64 = (0, p, 0)) (h2 : rdXs l d p 0 = (c, p1, e1)) (h3 : rdI' l p1 e1 = (x, p2, e2)) :
    rdB l d (h + 1) a = if e2 ≠ 0 then (none, p2, e2) else match rdB l d h p2 with
      | (none, p, e) => (none, p, e)
      | (some L, p, _) => match rdB l d h p with
        | (none, p', e) => (none, p', e)
        | (some R, p', _) => (some (.node c x L R), p', 0) := by
  rw [rdB]
  simp only [h1, h2, h3]
  rw [if_neg (by simp), if_neg (by simp)]

theorem rdXs_dead {l : List Int} {a : Nat} {e : Int} (he : e ≠ 0) : ∀ n, (rdXs l n a e).2.1 = a ∧ (rdXs l n a e).2.2 = e
  | 0 => ⟨rfl, rfl⟩
  | n + 1 => by
    obtain ⟨h1, h2⟩ := rdXs_dead he n
    rcases hx : rdXs l n a e with ⟨xs, a1, e1⟩
    rw [hx] at h1 h2
    simp only at h1 h2
    subst h1 h2
    have hk : rdI' l a1 e1 = (0, a1, e1) := by unfold rdI'; rw [if_neg he]
    rw [rdXs_next hx hk]
    exact ⟨rfl, rfl⟩

theorem rdB_spec {l : List Int} (hb : AllB l) (d : Nat) : ∀ (h a : Nat), a ≤ l.length →
    (∀ p e, rdB l d h a = (none, p, e) → e ≠ 0 ∧ p ≤ l.length) ∧ (∀ T p e, rdB l d h a = (some T, p, e) → e = 0 ∧ p ≤ l.length ∧ a < p ∧ Got l a p T.enc)
  | 0, a, ha => ⟨fun p e h => by unfold rdB at h; injection h with _ h; injection h with h1 h2; subst h1 h2; exact ⟨by decide, ha⟩, fun T p e h => by unfold rdB at h; injection h with h; cases h⟩
  | h + 1, a, ha => by
    rcases h1 : rdN' l a 0 64 with ⟨s, p, e⟩
    have hp := rdN'_le hb ha 0 64
    rw [h1] at hp
    simp only at hp
    by_cases he : e = 0
    · subst he
      have hg := gotN hb (l := l) (a := a) (e := 0) (most := 64) (by rw [h1])
      rw [h1] at hg
      simp only at hg
      have hlt := (rdN'_facts l hb a 0 64).2 (by rw [h1])
      rw [h1] at hlt
      simp only at hlt
      by_cases hs : s = 0
      · subst hs
        rcases h2 : rdXs l d p 0 with ⟨c, p1, e1⟩
        have hp1 := rdXs_le hb hp 0 d
        rw [h2] at hp1
        simp only at hp1
        rcases h3 : rdI' l p1 e1 with ⟨x, p2, e2⟩
        have hp2 := rdI'_le hb hp1 e1
        rw [h3] at hp2
        simp only at hp2
        rw [rdB_node h1 h2 h3]
        by_cases he2 : e2 = 0
        · subst he2
          rw [if_neg (by simp)]
          have hgi := gotI hb (l := l) (a := p1) (e := e1) (by rw [h3])
          rw [h3] at hgi
          simp only at hgi
          obtain ⟨rfl, hgi⟩ := hgi
          have hgx := rdXs_got hb (a := p) (e := 0) hp d (by rw [h2])
          rw [h2] at hgx
          simp only at hgx
          obtain ⟨n1, s1⟩ := rdB_spec hb d h p2 hp2
          rcases r1 : rdB l d h p2 with ⟨_ | L, p3, e3⟩
          · exact ⟨fun p' e' hh => by injection hh with _ hh; injection hh with g1 g2; subst g1 g2; exact n1 _ _ r1, fun T p' e' hh => by injection hh with hh; cases hh⟩
          · obtain ⟨_, q3, q4, q5⟩ := s1 _ _ _ r1
            obtain ⟨n2, s2⟩ := rdB_spec hb d h p3 q3
            rcases r2 : rdB l d h p3 with ⟨_ | R, p4, e4⟩
            · simp only [r2]
              exact ⟨fun p' e' hh => by injection hh with _ hh; injection hh with g1 g2; subst g1 g2; exact n2 _ _ r2, fun T p' e' hh => by injection hh with hh; cases hh⟩
            · simp only [r2]
              obtain ⟨_, q6, q7, q8⟩ := s2 _ _ _ r2
              refine ⟨fun p' e' hh => by (injection hh with hh; cases hh), fun T p' e' hh => ?_⟩
              injection hh with hh1 hh
              injection hh with hh2 hh3
              injection hh1 with hh1
              subst hh1 hh2 hh3
              refine ⟨rfl, q6, ?_, ?_⟩
              · have := hgx.2.1; have := hgi.1; have := hlt.1; omega
              · have := ((hg.2.1.trans (hgx.2.trans hgi)).trans (q5.trans q8))
                unfold BT.enc
                exact this
        · rw [if_pos he2]
          exact ⟨fun p' e' hh => by injection hh with _ hh; injection hh with g1 g2; subst g1 g2; exact ⟨he2, hp2⟩, fun T p' e' hh => by injection hh with hh; cases hh⟩
      · rw [rdB_leaf h1 hs]
        refine ⟨fun p' e' hh => by (injection hh with hh; cases hh), fun T p' e' hh => ?_⟩
        injection hh with hh1 hh
        injection hh with hh2 hh3
        injection hh1 with hh1
        subst hh1 hh2 hh3
        exact ⟨rfl, hp, hlt.1, hg.2.1⟩
    · rw [rdB_bad h1 he]
      exact ⟨fun p' e' hh => by injection hh with _ hh; injection hh with g1 g2; subst g1 g2; exact ⟨he, hp⟩, fun T p' e' hh => by injection hh with hh; cases hh⟩
end Go.Proofs.Ytdbonlpkmncggaa

namespace Go.Proofs.Ytdbonlpkmncggaa

def setR (out : List NodeP) (of : Int) : List NodeP := if 0 ≤ of then out.modify of.toNat (fun n => { n with right := (out.length : Int) }) else out
def leafN (s : Nat) : NodeP := ⟨[], 0, 0, 0, s⟩
def nodeN (c : List Int) (x : Int) (p : Nat) : NodeP := ⟨c, x, (p : Int) + 1, 0, 0⟩

theorem setR_len (out : List NodeP) (of : Int) : (setR out of).length = out.length := by
  unfold setR
  split
  · exact List.length_modify _ _ _
  · rfl

theorem setR_no (out : List NodeP) : setR out (-1) = out := by unfold setR; rw [if_neg (by omega)]

theorem setR_pos (out : List NodeP) (k : Nat) : setR out (k : Int) = out.modify k (fun n => { n with right := (out.length : Int) }) := by
  unfold setR
  rw [if_pos (by omega), Int.toNat_natCast]

/-- What the reading of nodes comes to: what must come, what is there, where, how it failed; the result. -/
inductive Run (l : List Int) (d : Nat) : List (Nat × Int) → List NodeP → Nat → Int → (Option (List NodeP) × Nat × Int) → Prop
  | bad {st out a e} : e ≠ 0 → Run l d st out a e (none, a, e)
  | done {out a} : Run l d [] out a 0 (some out, a, 0)
  | deep {dep of rest out a} : 6 < dep → Run l d ((dep, of) :: rest) out a 0 (none, a, 211)
  | leaf {dep of rest out a s p e R} : dep ≤ 6 → rdN' l a 0 64 = (s, p, e) → s ≠ 0 → Run l d rest (setR out of ++ [leafN s]) p e R → Run l d ((dep, of) :: rest) out a 0 R
  | node {dep of rest out a p e c p1 e1 x p2 e2 R} : dep ≤ 6 → rdN' l a 0 64 = (0, p, e) → rdXs l d p e = (c, p1, e1) → rdI' l p1 e1 = (x, p2, e2) →
      Run l d ((dep + 1, -1) :: (dep + 1, (out.length : Int)) :: rest) (setR out of ++ [nodeN c x out.length]) p2 e2 R → Run l d ((dep, of) :: rest) out a 0 R

theorem Run.err {l : List Int} {d : Nat} {st : List (Nat × Int)} {out : List NodeP} {a : Nat} {e : Int} {R : Option (List NodeP) × Nat × Int} (h : Run l d st out a e R) (he : e ≠ 0) : R = (none, a, e) := by
  cases h with
  | bad _ => rfl
  | done => exact absurd rfl he
  | deep _ => exact absurd rfl he
  | leaf _ _ _ _ => exact absurd rfl he
  | node _ _ _ _ _ => exact absurd rfl he

theorem modify_mid {pre post : List NodeP} {n : NodeP} {f : NodeP → NodeP} {k : Nat} (hk : k = pre.length) : (pre ++ n :: post).modify k f = pre ++ f n :: post := by
  subst hk
  apply List.ext_getElem?
  intro j
  rw [List.getElem?_modify]
  rcases Nat.lt_trichotomy j pre.length with h | h | h
  · rw [List.getElem?_append_left h, List.getElem?_append_left h]
    simp [show ¬ pre.length = j by omega]
  · subst h
    rw [List.getElem?_append_right (Nat.le_refl _), List.getElem?_append_right (Nat.le_refl _), Nat.sub_self]
    simp
  · rw [List.getElem?_append_right (by omega), List.getElem?_append_right (by omega)]
    have e : j - pre.length = (j - pre.length - 1) + 1 := by omega
    rw [e]
    simp [show ¬ pre.length = j by omega]

theorem run_rdB {l : List Int} {d : Nat} : ∀ (h dep : Nat), dep + h = 7 → ∀ (rest : List (Nat × Int)) (of : Int) (out : List NodeP) (a : Nat) (R : Option (List NodeP) × Nat × Int), Run l d ((dep, of) :: rest) out a 0 R →
    (∀ p e, rdB l d h a = (none, p, e) → e ≠ 0 → R = (none, p, e)) ∧ (∀ T p e, rdB l d h a = (some T, p, e) → Run l d rest (setR out of ++ T.raw out.length) p 0 R)
  | 0, dep, hd, rest, of, out, a, R, hr => by
    obtain rfl : dep = 7 := by omega
    cases hr with
    | bad h => exact absurd rfl h
    | deep _ => exact ⟨fun p e hh _ => by unfold rdB at hh; injection hh with _ hh; injection hh with g1 g2; subst g1 g2; rfl, fun T p e hh => by unfold rdB at hh; injection hh with hh; cases hh⟩
    | leaf h _ _ _ => exact absurd h (by omega)
    | node h _ _ _ _ => exact absurd h (by omega)
  | h + 1, dep, hd, rest, of, out, a, R, hr => by
    cases hr with
    | bad h => exact absurd rfl h
    | deep h => exact absurd h (by omega)
    | @leaf _ _ _ _ _ s p e _ hdep h1 hs hr =>
      by_cases he : e = 0
      · subst he
        rw [rdB_leaf h1 hs]
        refine ⟨fun p' e' hh => by (injection hh with hh; cases hh), fun T p' e' hh => ?_⟩
        injection hh with hh1 hh
        injection hh with hh2 hh3
        injection hh1 with hh1
        subst hh1 hh2
        exact hr
      · have h0 : s = 0 := by
          rw [rdN'_of] at h1
          split at h1
          · injection h1 with g1 _; exact g1.symm
          · split at h1
            · injection h1 with g1 _; exact g1.symm
            · rename_i hx _
              rw [h1] at hx
              exact absurd (by simpa using hx) he
        exact absurd h0 hs
    | @node _ _ _ _ _ p e c p1 e1 x p2 e2 _ hdep h1 h2 h3 hr =>
      by_cases he : e = 0
      · subst he
        rw [rdB_node h1 h2 h3]
        by_cases he2 : e2 = 0
        · subst he2
          rw [if_neg (by simp)]
          have i1 := run_rdB h (dep + 1) (by omega) _ _ _ _ _ hr
          rcases r1 : rdB l d h p2 with ⟨_ | L, p3, e3⟩
          · exact ⟨fun p' e' hh hne => by injection hh with _ hh; injection hh with g1 g2; subst g1 g2; exact i1.1 _ _ r1 hne, fun T p' e' hh => by injection hh with hh; cases hh⟩
          · have hr2 := i1.2 _ _ _ r1
            have i2 := run_rdB h (dep + 1) (by omega) _ _ _ _ _ hr2
            rcases r2 : rdB l d h p3 with ⟨_ | T2, p4, e4⟩
            · simp only [r2]
              exact ⟨fun p' e' hh hne => by injection hh with _ hh; injection hh with g1 g2; subst g1 g2; exact i2.1 _ _ r2 hne, fun T p' e' hh => by injection hh with hh; cases hh⟩
            · simp only [r2]
              refine ⟨fun p' e' hh => by (injection hh with hh; cases hh), fun T p' e' hh => ?_⟩
              injection hh with hh1 hh
              injection hh with hh2 hh3
              injection hh1 with hh1
              subst hh1 hh2
              have hr3 := i2.2 _ _ _ r2
              rw [setR_no] at hr3
              have hlen : (setR out of ++ [nodeN c x out.length]).length = out.length + 1 := by rw [List.length_append, setR_len]; rfl
              rw [hlen] at hr3
              have hlen2 : (setR out of ++ [nodeN c x out.length] ++ L.raw (out.length + 1)).length = out.length + 1 + L.cnt := by rw [List.length_append, hlen, BT.raw_len]
              rw [hlen2] at hr3
              have hset : setR (setR out of ++ [nodeN c x out.length] ++ L.raw (out.length + 1)) (out.length : Int) = setR out of ++ ⟨c, x, (out.length : Int) + 1, ((out.length + 1 + L.cnt : Nat) : Int), 0⟩ :: L.raw (out.length + 1) := by
                rw [setR_pos, hlen2, List.append_assoc, List.singleton_append, modify_mid (setR_len out of).symm]
                rfl
              rw [hset] at hr3
              have hfin : setR out of ++ (BT.node c x L T2).raw out.length = setR out of ++ ⟨c, x, (out.length : Int) + 1, ((out.length + 1 + L.cnt : Nat) : Int), 0⟩ :: L.raw (out.length + 1) ++ T2.raw (out.length + 1 + L.cnt) := by
                rw [BT.raw, List.append_assoc]
                rfl
              rw [hfin]
              exact hr3
        · rw [if_pos he2]
          have hR := hr.err he2
          exact ⟨fun p' e' hh hne => by injection hh with _ hh; injection hh with g1 g2; subst g1 g2; exact hR, fun T p' e' hh => by injection hh with hh; cases hh⟩
      · rw [rdB_bad h1 he]
        have hx := rdXs_dead (l := l) (a := p) he d
        rw [h2] at hx
        simp only at hx
        obtain ⟨rfl, rfl⟩ := hx
        have hk : rdI' l p1 e1 = (0, p1, e1) := by unfold rdI'; rw [if_neg he]
        rw [hk] at h3
        injection h3 with _ h3
        injection h3 with h3 h4
        subst h3 h4
        have hR := hr.err he
        exact ⟨fun p' e' hh hne => by injection hh with _ hh; injection hh with g1 g2; subst g1 g2; exact hR, fun T p' e' hh => by injection hh with hh; cases hh⟩

/-- What nodes from a root on are. -/
def rdNodes (l : List Int) (d a : Nat) : Option BT × Nat × Int := rdB l d 7 a

theorem run_nodes {l : List Int} (hb : AllB l) {d a : Nat} (ha : a ≤ l.length) {R : Option (List NodeP) × Nat × Int} (h : Run l d [(0, -1)] [] a 0 R) :
    (∀ p e, rdNodes l d a = (none, p, e) → R = (none, p, e)) ∧ (∀ T p e, rdNodes l d a = (some T, p, e) → R = (some (T.raw 0), p, 0)) := by
  obtain ⟨h1, h2⟩ := run_rdB 7 0 rfl [] (-1) [] a R h
  obtain ⟨g1, g2⟩ := rdB_spec hb d 7 a ha
  refine ⟨fun p e hh => h1 p e hh (g1 p e hh).1, fun T p e hh => ?_⟩
  have := h2 T p e hh
  rw [setR_no, List.nil_append] at this
  generalize e0 : (0 : Int) = z at this
  cases this with
  | bad hx => exact absurd e0.symm hx
  | done => rfl
end Go.Proofs.Ytdbonlpkmncggaa
