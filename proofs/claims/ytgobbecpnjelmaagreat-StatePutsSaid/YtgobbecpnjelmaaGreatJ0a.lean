/-
  Base: Words and small laws for all walks of this seat: slices that read as integers, appending one element to a slice of the call's own.
  Kit: Small laws that all walks share: results, bounds, readings behind draws, append of a whole list.
  NumA: Walks of package num: the functions on numbers alone.
  NumB: Walks of package num: quotients, products, the greatest divisor.
  BinA: Walks of layer 21 (bin): copies of bytes; equal lists of bytes.
  BinB: The bytes of a number (layer 21), in plain Lean.
  BinC: Walks of layer 21 (bin): a number put behind bytes.
  BinD: Walks of copseref21: the bytes of a number, by definition.
  BinE: Walks of layer 21: numbers with a sign.
  BinF: Walks of layer 21: texts.
  BinG: Walks of layer 21: lists.
  BinI: What a reader of bytes reads (layer 21), in plain Lean.
  BinJ: Walks of the reader of bytes (layer 21): its block, and its small methods.
  BinK: Walk of the reader's method that reads a number (layer 21).
  BinH: Walks of layer 21: a list put behind bytes.
  BinL: Walks of the reader's other methods (layer 21).
  BinM: Walks of the reader's methods that read texts and lists (layer 21).
  BinN: Walks of the reader's small methods; a reader of bytes; what is dead reads nothing (layer 21).
  BinP: Walks of copseref21's readers.
  BinQ: Walks of copseref21's readers, continued: whatever reader comes in, failed or not.
  BinR: Walks of copseref21's readers: numbers with a sign, texts, failing.
  WoodX: Plain laws of reading numbers, one behind the other.
  NumC: Walks of package num: products and the greatest divisor.
  WideMath: Numbers of 128 bits, in plain Lean.
  DivMath: Plain laws: a long division of two words by one, digit by digit.
  Div64: The walk of math/bits.Div64.
  WideA: Walks of package wide: sums, differences, order, products, quotients.
  WideB: Walks of package wide: quotients, roots.
  WideC: Walks of package wide: how products lie.
  QuantP: Plain laws of layers 13 and 19: scores, their order, the line.
  BinS: Walk of copseref21's reader of lists.
  Same01: Walk of copseref01.Same: whether two lists of integers are the same.
-/
import Derived.Test.YtgobbecpnjelmaaGreatRows
import Derived.WalkKit
import Derived.WalkSpells
import Derived.WalkLawsBesides
import Derived.Deep.QuietTactic
import Derived.BigQuiet
import Derived.Lib.Hide
import Derived.Deep.DeepMust
import Derived.Deep.RegionHeld3
import Derived.Deep.DeepFit
import Derived.Outline
import Derived.Deep.DrawnRows
import Derived.Deep.Draws
import Derived.Maps.AppendAt
import Derived.Test.YtgobbecpnjelmaaGreatShelf
import Derived.Lib.SliceRun
import Derived.Laws.BytesArg
import Derived.Lib.ItoaNum
import Derived.Laws.Bits64
import Derived.Defers
import Derived.Laws.Bits64b
import Derived.Deep.DeepCutAuto
import Derived.Deep.CutBlock
import Derived.Laws.Externs
namespace Go.Proofs.YtgobbecpnjelmaaGreat
open Go.RowKit

/-- v is a slice whose elements are the integers l. -/
def Ints (k : IntKind) (w : World) (v : Value) (l : List Int) : Prop :=
 ∃ a c, v = .slice a l.length c ∧ l.length ≤ c ∧ c ≤ 9223372036854775807 ∧ l.length ≤ 140737488351232 ∧
  ∀ (i : Nat) (x : Int), l[i]? = some x → ∃ b o, a = some ⟨b, o, none⟩ ∧ b < w.heap.size ∧ w.cell? ⟨b, o + i, none⟩ = some (.int k x)

theorem Ints.shape {k : IntKind} {w : World} {v : Value} {l : List Int} (h : Ints k w v l) : ∃ a c, v = .slice a l.length c := by
 obtain ⟨a, c, e, _⟩ := h; exact ⟨a, c, e⟩

/-- v lies from block B on (or holds nothing). -/
def Fresh (B : Nat) (v : Value) : Prop := ∀ a n c, v = .slice (some a) n c → n ≠ 0 → B ≤ a.block

theorem Fresh.zero (v : Value) : Fresh 0 v := fun _ _ _ _ _ => Nat.zero_le _

theorem Fresh.mono {B B' : Nat} {v : Value} (h : Fresh B v) (hb : B' ≤ B) : Fresh B' v := fun a n c e h0 => Nat.le_trans hb (h a n c e h0)

theorem Fresh.own {w : World} {base e size n : Nat} {v : Value} {xs : List Value} (h : w.ownsRow base e size v n xs) : Fresh base v := fun a n c e _ =>
 (h.lt a.block (by rw [e]; rfl)).1

theorem Fresh.cut {B k n c : Nat} {a : Option Addr} (h : Fresh B (.slice a n c)) (hk : k ≤ n) : Fresh B (.slice a k c) := fun a' n' c' e h0 => by
 injection e with e1 e2 e3
 subst e1 e2 e3
 exact h _ _ _ rfl (by omega)

theorem Ints.setCell {k : IntKind} {w : World} {v : Value} {l : List Int} {B : Nat} {A : Addr} (h : Ints k w v l) (hf : Fresh B v) (hA : A.block < B) (u : Value) : Ints k (w.setCell A u) v l := by
 obtain ⟨a, c, rfl, h1, h2, h3, h⟩ := h
 refine ⟨a, c, rfl, h1, h2, h3, fun i x hi => ?_⟩
 obtain ⟨b, o, e, hlt, hc⟩ := h i x hi
 refine ⟨b, o, e, by simpa [World.setCell] using hlt, ?_⟩
 have hb : B ≤ b := hf ⟨b, o, none⟩ l.length c (by rw [e]) (by have := (List.getElem?_eq_some_iff.1 hi).1; omega)
 exact (World.cell?_of_block (w := w) (a := ⟨b, o + i, none⟩) (Below.heap_setCell _ _ _ _ (show b ≠ A.block by omega))).trans hc

theorem Ints.below {k : IntKind} {w w' : World} {v : Value} {l : List Int} (h : Ints k w v l) (hb : Below w.heap.size w w') : Ints k w' v l := by
 obtain ⟨a, c, rfl, h1, h2, h3, h⟩ := h
 refine ⟨a, c, rfl, h1, h2, h3, fun i x hi => ?_⟩
 obtain ⟨b, o, e, hlt, hc⟩ := h i x hi
 exact ⟨b, o, e, Nat.lt_of_lt_of_le hlt hb.size, (hb.cell (p := ⟨b, o + i, none⟩) hlt).trans hc⟩

/-- What the call built itself reads as a slice of integers. -/
theorem Ints.own {k : IntKind} {w : World} {base e n : Nat} {v : Value} {l : List Int} (h : w.ownsRow base e 1 v n (l.map (Value.int k))) (hl : l.length ≤ 140737488351232) : n = l.length ∧ Ints k w v l := by
 have hlen : l.length = n := by simpa using h.1
 refine ⟨hlen.symm, ?_⟩
 subst hlen
 rcases h.2 with ⟨rfl, h0⟩ | ⟨g, cap, cur, rfl, hb, hg, h1, h2, h3, h4⟩
 ·have : l = [] := List.eq_nil_of_length_eq_zero h0
  subst this
  exact ⟨none, 0, rfl, by simp, by omega, by simp, fun i x hi => by simp at hi⟩
 ·refine ⟨_, _, rfl, h1, by simpa [maxLen] using h2, hl, fun i x hi => ⟨g, 0, rfl, (Array.getElem?_eq_some_iff.1 hg).1, ?_⟩⟩
  have hi' : (l.map (Value.int k))[i]? = some (.int k x) := by simp [hi]
  have := World.ownsRow.cells h (g := g) rfl i _ hi'
  have hadd : (⟨g, 0, none⟩ : Addr).add i = ⟨g, 0 + i, none⟩ := by unfold Addr.add; split <;> simp_all
  rwa [hadd] at this


/-- What the table says of an element type: its zero, its cells, its bytes. -/
def EI (P : Program) (e : TypeId) (z : Value) (size bytes : Nat) : Prop :=
 ∃ i, P.info? e = some i ∧ i.zero = some z ∧ i.size = size ∧ i.bytes = bytes ∧ z.cells.size = size ∧ 0 < size ∧ 0 < bytes

theorem EI.of {P : Program} {e : TypeId} {z : Value} {size bytes : Nat} (h : (P.info? e).map (fun i => (i.zero, i.size, i.bytes)) = some (some z, size, bytes)) (h1 : z.cells.size = size) (h2 : 0 < size) (h3 : 0 < bytes) : EI P e z size bytes := by
 obtain ⟨i, a, b, c, d⟩ := info_parts h
 exact ⟨i, a, b, c, d, h1, h2, h3⟩

/-- One element is appended to a slice of the call's own: it lies in the block laid last. -/
theorem app1 {P : Program} {ops : Array Oper} {rest : List Oper} {o : Oper} {a : Act} {Q : Exit → Act → World → Prop} (hgd : o.guard = none) (s x : Operand) (t : TypeId)
  (ho : o.op = .call { callee := .builtin .append, args := #[s, x], argTypes := #[t, t] })
  {e : TypeId} {z : Value} {size bytes : Nat} (ht : P.underlying t = some (.slice e)) (hE : EI P e z size bytes)
  (base : Nat) {v : Value} {n : Nat} {xs : List Value} {W : World} {cs : Array Value} {T : TypeId} {C : Nat} (hs : a.eval s = v) (hown : W.ownsRow base e size v n xs)
  (hx : a.eval x = .slice (some ⟨W.heap.size, 0, none⟩) 1 C) (hcs : cs.size = size) (h1 : ∀ u ∈ cs.toList, u.oneCell' = true)
  (hbytes : (n + 1) * bytes ≤ 140737488355328) (hbase : base ≤ W.heap.size)
  (h : ∀ v' w', w'.ownsRow base e size v' (n + 1) (xs ++ cs.toList) → Below base W w' → W.grownBy w' v.ownBlock → wpList P ops Q rest (a.put o.dst v') w') :
  wpList P ops Q (o :: rest) a (W.alloc (.cells cs T)) := by
 obtain ⟨i, hi, hz, hsize, hby, hzs, hsz, hbp⟩ := hE
 have h63 : n + 1 ≤ 140737488355328 := Nat.le_trans (Nat.le_mul_of_pos_right _ hbp) hbytes
 refine wpList_append_own _ hgd s x t ho base e i z size bytes ht hi hz hsize hby hzs hsz v n xs hs (hown.alloc _) ⟨W.heap.size, 0, none⟩ 1 C cs.toList hx (by simp [hcs]) ?_ h1 (by unfold maxLen; omega) hbytes (by simp; omega) ?_
 ·intro j u hu
  have hadd : (⟨W.heap.size, 0, none⟩ : Addr).add j = ⟨W.heap.size, j, none⟩ := by unfold Addr.add; split <;> simp_all
  rw [hadd]
  have hb := heap_alloc_new W (.cells cs T)
  simp only [World.cell?, hb]
  simpa using hu
 ·intro v' w' hown' hg _
  refine h v' w' hown' ?_ ?_
  ·exact ((Below.refl _ _).alloc hbase _).grown hg (by simp; omega) fun k hk => (hown.lt k hk).1
  ·exact ⟨hg.os, hg.tape, hg.output, by have := hg.size; simp at this; omega, fun k hk hne => (hg.block k (by simp; omega) hne).trans (Below.heap_alloc W _ k hk)⟩

theorem Ints.take {kd : IntKind} {w : World} {a : Option Addr} {c k n : Nat} {l : List Int} (h : Ints kd w (.slice a n c) l) (hk : k ≤ l.length) : n = l.length ∧ Ints kd w (.slice a k c) (l.take k) := by
 obtain ⟨a', c', e, h1, h2, h3, h⟩ := h
 injection e with e1 e2 e3
 subst e1 e2 e3
 have hl : (l.take k).length = k := by simp; omega
 refine ⟨rfl, a, c, by rw [hl], by omega, h2, by omega, fun i x hi => h i x ?_⟩
 rw [List.getElem?_take] at hi
 split at hi
 ·exact hi
 ·cases hi

theorem getElem?_ex {α : Type} {l : List α} {k : Nat} (h : k < l.length) : ∃ x, l[k]? = some x := ⟨_, List.getElem?_eq_getElem h⟩

theorem take_snoc' {α : Type} {l : List α} {k : Nat} {x : α} (h : l[k]? = some x) : l.take (k + 1) = l.take k ++ [x] := by
 rw [List.take_add_one, h]; rfl

theorem take_step {la lb : List Int} {k : Nat} {x : Int} (ha : la[k]? = some x) (hb : lb[k]? = some x) (h : la.take k = lb.take k) : la.take (k + 1) = lb.take (k + 1) := by
 rw [take_snoc' ha, take_snoc' hb, h]

theorem ret_bool {a b : Bool} (h : a = b) : Ending.returned (.bool a) = .returned (.bool b) := by rw [h]

theorem ret_int {k : IntKind} {a b : Int} (h : a = b) : Ending.returned (.int k a) = .returned (.int k b) := by rw [h]

theorem mkfull {P : Program} {w : World} {ops : Array Oper} {rest : List Oper} {o : Oper} {a : Act} {Q : Exit → Act → World → Prop}
  (hg : o.guard = none) (l c : Operand) (t : TypeId) (hop : o.op = Op.makeSlice t l c) {e : TypeId} {z : Value} {size bytes : Nat} (ht : P.underlying t = some (.slice e)) (hE : EI P e z size bytes)
  (base : Nat) (n : Nat) {kl kc : IntKind} {L C : Int} (hl : a.eval l = .int kl L) (hc : a.eval c = .int kc C) (hL : L = (n : Int)) (hC : C = (n : Int)) (b2 : bytes * n ≤ 140737488355328) (hbase : base ≤ w.heap.size)
  (hK : ∀ w', w'.ownsRow base e size (.slice (some ⟨w.heap.size, 0, none⟩) n n) n (madeCells z.cells (n * size)).toList → Below base w w' → w.grownBy w' none → wpList P ops Q rest (a.put o.dst (.slice (some ⟨w.heap.size, 0, none⟩) n n)) w') :
  wpList P ops Q (o :: rest) a w := by
 obtain ⟨i, hi, hz, hsize, hby, hzs, hsz, hbp⟩ := hE
 have h63 : n ≤ 140737488355328 := Nat.le_trans (Nat.le_mul_of_pos_left _ hbp) b2
 exact wpList_make_full w hg l c t hop base e i z size ht hi hz hsize kl kc L C n hl hc hL hC (by rw [hby]; omega) (by unfold maxLen; omega) hbase fun w' h1 h2 => hK w' h1 ((Below.refl _ _).grown h2 hbase (by simp)) h2

theorem made_ints (k : IntKind) (n : Nat) : (madeCells (Value.cells (.int k 0)) (n * 1)).toList = (List.replicate n (0 : Int)).map (Value.int k) := by
 apply List.ext_getElem
 ·simp [madeCells]
 ·intro i h1 h2
  simp [madeCells, Value.cells, Nat.mod_one]

theorem eiInt : EI Tryz.prog 3 (.int .i64 0) 1 8 := .of (by kernel_rfl) rfl (by decide) (by decide)
end Go.Proofs.YtgobbecpnjelmaaGreat

namespace Go.Proofs.YtgobbecpnjelmaaGreat
open Go.RowKit

def Ok64 (z : Int) : Prop := -9223372036854775808 ≤ z ∧ z ≤ 9223372036854775807

instance (z : Int) : Decidable (Ok64 z) := by unfold Ok64; infer_instance

theorem ret2 {k k' : IntKind} {a b c d : Int} (h : a = c) (h' : b = d) : Ending.returned (.tuple #[.int k a, .int k' b]) = .returned (.tuple #[.int k c, .int k' d]) := by rw [h, h']

theorem getD_of {α : Type} {l : List α} {i : Nat} {x d : α} (h : l[i]? = some x) : l.getD i d = x := by simp [h]

theorem quiet_left {P : Program} {f : FuncId} {args : Array Value} {w : World} {n : Nat} {v : Value}
  (h : Calls P f args (w.drewN n) fun e w' => e = .returned v ∧ w.drewN n = w') : Calls P f args (w.drewN n) fun e w'' => e = .returned v ∧ ∃ m, w'' = w.drewN m :=
 h.mono fun _ _ ⟨he, hm⟩ => ⟨he, n, hm.symm⟩

theorem below_drewN {B : Nat} {a w : World} (h : Below B a w) (n : Nat) : Below B a (w.drewN n) := ⟨h.os, h.tape, h.output, h.size, h.block⟩

theorem Ints.drewN {k : IntKind} {w : World} {v : Value} {l : List Int} (h : Ints k w v l) (n : Nat) : Ints k (w.drewN n) v l := h.below (below_drewN (Below.refl _ _) n)

theorem Ints.cutAt {k : IntKind} {w : World} {ad : Option Addr} {n c : Nat} {l : List Int} (h : Ints k w (.slice ad n c) l) {i m : Nat} (hi : i + m ≤ l.length) {ad' : Option Addr} (c' : Nat) (hc : m ≤ c') (hc2 : c' ≤ 9223372036854775807)
  (ha : m ≠ 0 → ∀ b o, ad = some ⟨b, o, none⟩ → ad' = some ⟨b, o + i, none⟩) : Ints k w (.slice ad' m c') ((l.drop i).take m) := by
 obtain ⟨a0, c0, e, h1, h2, h3, h4⟩ := h
 injection e with e1 e2 e3
 subst e1 e2 e3
 have hlen : ((l.drop i).take m).length = m := by simp; omega
 refine ⟨ad', c', by rw [hlen], by omega, hc2, by omega, fun j x hj => ?_⟩
 have hjm : j < m := by have := (List.getElem?_eq_some_iff.1 hj).1; omega
 rw [List.getElem?_take, if_pos hjm, List.getElem?_drop] at hj
 obtain ⟨b, o, e, hb, hc⟩ := h4 (i + j) x hj
 exact ⟨b, o + i, ha (by omega) b o e, hb, by rw [Nat.add_assoc]; exact hc⟩

theorem Ints.new (k : IntKind) (W : World) (T : TypeId) (cs : Array Value) (l : List Int) (n c : Nat) (hcs : cs.toList = l.map (Value.int k)) (hn : n = l.length) (hc : n ≤ c) (hc2 : c ≤ 1000000) : Ints k (W.alloc (.cells cs T)) (.slice (some ⟨W.heap.size, 0, none⟩) n c) l := by
 subst hn
 refine ⟨_, _, rfl, hc, by omega, by omega, fun i x hi => ⟨W.heap.size, 0, rfl, by simp, ?_⟩⟩
 have hb := heap_alloc_new W (.cells cs T)
 simp only [World.cell?, hb]
 have : cs.toList[i]? = some (.int k x) := by rw [hcs]; simp [hi]
 simpa using this

theorem Ints.new' (k : IntKind) (W : World) (T : TypeId) (cs : Array Value) (l : List Int) (b n c : Nat) (hb : b = W.heap.size) (hcs : cs.toList = l.map (Value.int k)) (hn : n = l.length) (hc : n ≤ c) (hc2 : c ≤ 1000000) : Ints k (W.alloc (.cells cs T)) (.slice (some ⟨b, 0, none⟩) n c) l := by
 subst hb; exact Ints.new k W T cs l n c hcs hn hc hc2

/-- Append of a whole list of integers onto a row of the call's own. -/
theorem appInts {P : Program} {ops : Array Oper} {rest : List Oper} {o : Oper} {a : Act} {Q : Exit → Act → World → Prop} (hgd : o.guard = none) (s x : Operand) (t : TypeId)
  (ho : o.op = .call { callee := .builtin .append, args := #[s, x], argTypes := #[t, t] })
  {e : TypeId} {z : Value} {bytes : Nat} (ht : P.underlying t = some (.slice e)) (hE : EI P e z 1 bytes)
  (base : Nat) {v : Value} {n : Nat} {xs : List Value} {W : World} {k : IntKind} {vx : Value} {l : List Int} (hs : a.eval s = v) (hown : W.ownsRow base e 1 v n xs)
  (hx : a.eval x = vx) (hl : Ints k W vx l) (hbytes : (n + l.length) * bytes ≤ 140737488355328) (hbase : base ≤ W.heap.size)
  (h : ∀ v' w', w'.ownsRow base e 1 v' (n + l.length) (xs ++ l.map (Value.int k)) → Below base W w' → W.grownBy w' v.ownBlock → wpList P ops Q rest (a.put o.dst v') w') :
  wpList P ops Q (o :: rest) a W := by
 obtain ⟨i, hi, hz, hsize, hby, hzs, hsz, hbp⟩ := hE
 have h63 : n + l.length ≤ 140737488355328 := Nat.le_trans (Nat.le_mul_of_pos_right _ hbp) hbytes
 obtain ⟨ad, c, rfl, g1, g2, g3, h4⟩ := hl
 rcases ad with _ | ad
 ·have hl0 : l = [] := by
   cases l with
   | nil => rfl
   | cons x l => obtain ⟨b, o, e, _⟩ := h4 0 x rfl; cases e
  subst hl0
  have hrun : (Builtin.append_ #[t, t] o.type #[v, .slice none 0 c]).run P W = .ok v W := by
   rcases hown.2 with ⟨rfl, rfl⟩ | ⟨g, cap, cur, rfl, _, _, hnc, _⟩
   ·simp [Builtin.append_, run_underlying ht, sizeOf, typeInfo, hi, Builtin.lenOf, Builtin.firstCells]
   ·simp [Builtin.append_, run_underlying ht, sizeOf, typeInfo, hi, Builtin.lenOf, Builtin.firstCells, hnc, storeCells]
  refine wpList_plain hgd fun K hK => ?_
  unfold Oper.wp execOp
  simp only [ho, resolve, invoke, builtin, Sem.run_bind, Sem.run_pure, Result.andThen_ok, List.map_toArray, List.map_cons, List.map_nil, hs, hx, List.length_nil, hrun]
  exact hK _ _ (h v W (by simpa using hown) (Below.refl _ _) ⟨rfl, rfl, rfl, Nat.le_refl _, fun _ _ _ => rfl⟩)
 ·refine wpList_append_own _ hgd s x t ho base e i z 1 bytes ht hi hz hsize hby hzs hsz v n xs hs hown ad l.length c (l.map (Value.int k)) hx (by simp) ?_ (by intro u hu; simp at hu; obtain ⟨y, _, rfl⟩ := hu; rfl) (by unfold maxLen; omega) hbytes hbase ?_
  ·intro j u hu
   rw [List.getElem?_map] at hu
   cases hy : l[j]? with
   | none => rw [hy] at hu; cases hu
   | some y =>
    rw [hy] at hu
    obtain ⟨b, o, e, _, hc⟩ := h4 j y hy
    injection e with e
    subst e
    have hadd : (⟨b, o, none⟩ : Addr).add j = ⟨b, o + j, none⟩ := by unfold Addr.add; split <;> simp_all
    rw [hadd, hc]
    simpa using hu
  ·intro v' w' hown' hg _
   exact h v' w' hown' ((Below.refl _ _).grown hg hbase fun k hk => (hown.lt k hk).1) hg

theorem below_tr {B : Nat} {a b c : World} (h : Below B a b) (k : Below B b c) : Below B a c := h.trans k

theorem own_keep {w w' : World} {base e size n : Nat} {v : Value} {xs : List Value} (h : w.ownsRow base e size v n xs) (hk : ∀ g, base ≤ g → g < w.heap.size → w'.heap[g]? = w.heap[g]?) : w'.ownsRow base e size v n xs := by
 have hlt := h.lt
 refine ⟨h.1, ?_⟩
 rcases h.2 with h1 | ⟨g, cap, cur, rfl, h2, h3, h4⟩
 ·exact .inl h1
 ·exact .inr ⟨g, cap, cur, rfl, h2, (hk g (hlt g rfl).1 (hlt g rfl).2).trans h3, h4⟩

theorem ints_nil (k : IntKind) (w : World) (a : Option Addr) (c : Nat) (hc : c ≤ 9223372036854775807) : Ints k w (.slice a 0 c) [] := ⟨a, c, rfl, by simp, hc, by simp, fun i x h => by simp at h⟩

theorem Ints.len {k : IntKind} {w : World} {a : Option Addr} {n n' c : Nat} {l : List Int} (h : Ints k w (.slice a n c) l) (e : n = n') : Ints k w (.slice a n' c) l := by subst e; exact h

theorem Bs {B : Nat} {a w : World} {A : Addr} {u : Value} (hb : Below B a w) (h : B ≤ A.block := by first | omega | (simp; done) | (simp; omega)) : Below B a (w.setCell A u) := hb.setCell h u

theorem Ba {B : Nat} {a w : World} {o : Obj} (hb : Below B a w) (h : B ≤ w.heap.size := by first | omega | (simp; done) | (simp; omega)) : Below B a (w.alloc o) := hb.alloc h o

theorem Bd {B : Nat} {a w : World} (hb : Below B a w) : Below B a w.drew := hb.drew

theorem Bn {B n : Nat} {a w : World} (hb : Below B a w) : Below B a (w.drewN n) := below_drewN hb n

theorem Bt {B C : Nat} {a m w : World} (k : Below C m w) (hb : Below B a m) (h : B ≤ C := by first | omega | (simp; done) | (simp; omega)) : Below B a w := hb.trans (k.mono h)

theorem Bc {B C : Nat} {a m w : World} (hb : Below B a m) (k : Below C m w) (h : B ≤ C := by first | omega | (simp; done) | (simp; omega)) : Below B a w := hb.trans (k.mono h)

theorem sz {C L : Nat} {m w : World} (k : Below C m w) (h : L ≤ m.heap.size := by first | omega | (simp; done) | (simp; omega)) : L ≤ w.heap.size := Nat.le_trans h k.size

theorem Ints.setC {k : IntKind} {w : World} {v : Value} {l : List Int} {B : Nat} {A : Addr} {u : Value} (hf : Fresh B v) (h : Ints k w v l) (hA : A.block < B := by first | omega | (simp; done) | (simp; omega)) : Ints k (w.setCell A u) v l := h.setCell hf hA u

theorem Ints.alloc {k : IntKind} {w : World} {v : Value} {l : List Int} (h : Ints k w v l) (o : Obj) : Ints k (w.alloc o) v l := h.below (Ba (Below.refl _ _))

theorem Ints.drew {k : IntKind} {w : World} {v : Value} {l : List Int} (h : Ints k w v l) : Ints k w.drew v l := h.below (Bd (Below.refl _ _))

theorem lnm {a b : Nat} (h : a < b) : a < b ∧ a ≠ b ∧ b ≠ a := ⟨h, by omega, by omega⟩

theorem kc {B b o : Nat} {m w : World} {v : Value} (k : Below B m w) (e : m.cell? ⟨b, o, none⟩ = some v) (h : b < B) : w.cell? ⟨b, o, none⟩ = some v := (k.cell (p := ⟨b, o, none⟩) h).trans e

theorem kf {B b o : Nat} {m w : World} (k : Below B m w) (e : m.frozen? ⟨b, o, none⟩ = false) (h : b < B) : w.frozen? ⟨b, o, none⟩ = false := (k.frozen (p := ⟨b, o, none⟩) h).trans e

theorem gc {R b o : Nat} {m w : World} {v : Value} (k : m.grownBy w (some R)) (e : m.cell? ⟨b, o, none⟩ = some v) (h : b < m.heap.size) (hn : R ≠ b) : w.cell? ⟨b, o, none⟩ = some v :=
 (World.cell?_of_block (w := m) (w' := w) (a := ⟨b, o, none⟩) (k.block b h (by simp; omega))).trans e

theorem gf {R b o : Nat} {m w : World} (k : m.grownBy w (some R)) (e : m.frozen? ⟨b, o, none⟩ = false) (h : b < m.heap.size) (hn : R ≠ b) : w.frozen? ⟨b, o, none⟩ = false := by
 have hh := k.block b h (by simp; omega)
 simp only [World.frozen?] at e ⊢
 rw [hh]
 exact e

theorem bw {B : Nat} {a w : World} (h : Below B a w := by (repeat (first | with_reducible exact Below.refl _ _ | with_reducible refine Bs ?_ | with_reducible refine Ba ?_ | with_reducible refine Bd ?_ | with_reducible refine Bn ?_))) : Below B a w := h

theorem bx {B C : Nat} {a m w W : World} (k : Below C m w) (h : Below B a m := by (repeat (first | with_reducible exact Below.refl _ _ | with_reducible refine Bs ?_ | with_reducible refine Ba ?_ | with_reducible refine Bd ?_ | with_reducible refine Bn ?_))) (h2 : Below B w W := by (repeat (first | with_reducible exact Below.refl _ _ | with_reducible refine Bs ?_ | with_reducible refine Ba ?_ | with_reducible refine Bd ?_ | with_reducible refine Bn ?_))) (hc : B ≤ C := by first | omega | (simp; done) | (simp; omega)) : Below B a W := (h.trans (k.mono hc)).trans h2

theorem kC {B b o : Nat} {m w : World} {v : Value} (k : Below B m w) (e : m.cell? ⟨b, o, none⟩ = some v := by go_simp) (h : b < B := by first | omega | (simp; done) | (simp; omega)) : w.cell? ⟨b, o, none⟩ = some v := kc k e h

theorem gC {R b o : Nat} {m w : World} {v : Value} (k : m.grownBy w (some R)) (e : m.cell? ⟨b, o, none⟩ = some v := by go_simp) (h : b < m.heap.size := by first | omega | (simp; done) | (simp; omega)) (hn : R ≠ b := by omega) : w.cell? ⟨b, o, none⟩ = some v := gc k e h hn

theorem k2 (b : Nat) (v0 v1 : Value) {B : Nat} {m w : World} (k : Below B m w) (e : m.cell? ⟨b, 0, none⟩ = some v0 ∧ m.cell? ⟨b, 1, none⟩ = some v1) (h : b < B := by first | omega | (simp; done) | (simp; omega)) : w.cell? ⟨b, 0, none⟩ = some v0 ∧ w.cell? ⟨b, 1, none⟩ = some v1 := by
 obtain ⟨e0, e1⟩ := e
 exact ⟨kc k e0 h, kc k e1 h⟩

theorem g2 (b : Nat) (v0 v1 : Value) {R : Nat} {m w : World} (k : m.grownBy w (some R)) (e : m.cell? ⟨b, 0, none⟩ = some v0 ∧ m.cell? ⟨b, 1, none⟩ = some v1) (h : b < m.heap.size := by first | omega | (simp; done) | (simp; omega)) (hn : R ≠ b := by omega) : w.cell? ⟨b, 0, none⟩ = some v0 ∧ w.cell? ⟨b, 1, none⟩ = some v1 := by
 obtain ⟨e0, e1⟩ := e
 exact ⟨gc k e0 h hn, gc k e1 h hn⟩

theorem k2f (b : Nat) (v0 v1 : Value) {B : Nat} {m w : World} (k : Below B m w) (e : m.cell? ⟨b, 0, none⟩ = some v0 ∧ m.frozen? ⟨b, 0, none⟩ = false ∧ m.cell? ⟨b, 1, none⟩ = some v1 ∧ m.frozen? ⟨b, 1, none⟩ = false) (h : b < B := by first | omega | (simp; done) | (simp; omega)) : w.cell? ⟨b, 0, none⟩ = some v0 ∧ w.frozen? ⟨b, 0, none⟩ = false ∧ w.cell? ⟨b, 1, none⟩ = some v1 ∧ w.frozen? ⟨b, 1, none⟩ = false := by
 obtain ⟨e0, f0, e1, f1⟩ := e
 exact ⟨kc k e0 h, kf k f0 h, kc k e1 h, kf k f1 h⟩

theorem g2f (b : Nat) (v0 v1 : Value) {R : Nat} {m w : World} (k : m.grownBy w (some R)) (e : m.cell? ⟨b, 0, none⟩ = some v0 ∧ m.frozen? ⟨b, 0, none⟩ = false ∧ m.cell? ⟨b, 1, none⟩ = some v1 ∧ m.frozen? ⟨b, 1, none⟩ = false) (h : b < m.heap.size := by first | omega | (simp; done) | (simp; omega)) (hn : R ≠ b := by omega) : w.cell? ⟨b, 0, none⟩ = some v0 ∧ w.frozen? ⟨b, 0, none⟩ = false ∧ w.cell? ⟨b, 1, none⟩ = some v1 ∧ w.frozen? ⟨b, 1, none⟩ = false := by
 obtain ⟨e0, f0, e1, f1⟩ := e
 exact ⟨gc k e0 h hn, gf k f0 h hn, gc k e1 h hn, gf k f1 h hn⟩

theorem k3 (b : Nat) (v0 v1 v2 : Value) {B : Nat} {m w : World} (k : Below B m w) (e : m.cell? ⟨b, 0, none⟩ = some v0 ∧ m.cell? ⟨b, 1, none⟩ = some v1 ∧ m.cell? ⟨b, 2, none⟩ = some v2) (h : b < B := by first | omega | (simp; done) | (simp; omega)) : w.cell? ⟨b, 0, none⟩ = some v0 ∧ w.cell? ⟨b, 1, none⟩ = some v1 ∧ w.cell? ⟨b, 2, none⟩ = some v2 := by
 obtain ⟨e0, e1, e2⟩ := e
 exact ⟨kc k e0 h, kc k e1 h, kc k e2 h⟩

theorem g3 (b : Nat) (v0 v1 v2 : Value) {R : Nat} {m w : World} (k : m.grownBy w (some R)) (e : m.cell? ⟨b, 0, none⟩ = some v0 ∧ m.cell? ⟨b, 1, none⟩ = some v1 ∧ m.cell? ⟨b, 2, none⟩ = some v2) (h : b < m.heap.size := by first | omega | (simp; done) | (simp; omega)) (hn : R ≠ b := by omega) : w.cell? ⟨b, 0, none⟩ = some v0 ∧ w.cell? ⟨b, 1, none⟩ = some v1 ∧ w.cell? ⟨b, 2, none⟩ = some v2 := by
 obtain ⟨e0, e1, e2⟩ := e
 exact ⟨gc k e0 h hn, gc k e1 h hn, gc k e2 h hn⟩

theorem k4 (b : Nat) (v0 v1 v2 v3 : Value) {B : Nat} {m w : World} (k : Below B m w) (e : m.cell? ⟨b, 0, none⟩ = some v0 ∧ m.cell? ⟨b, 1, none⟩ = some v1 ∧ m.cell? ⟨b, 2, none⟩ = some v2 ∧ m.cell? ⟨b, 3, none⟩ = some v3) (h : b < B := by first | omega | (simp; done) | (simp; omega)) : w.cell? ⟨b, 0, none⟩ = some v0 ∧ w.cell? ⟨b, 1, none⟩ = some v1 ∧ w.cell? ⟨b, 2, none⟩ = some v2 ∧ w.cell? ⟨b, 3, none⟩ = some v3 := by
 obtain ⟨e0, e1, e2, e3⟩ := e
 exact ⟨kc k e0 h, kc k e1 h, kc k e2 h, kc k e3 h⟩

theorem g4 (b : Nat) (v0 v1 v2 v3 : Value) {R : Nat} {m w : World} (k : m.grownBy w (some R)) (e : m.cell? ⟨b, 0, none⟩ = some v0 ∧ m.cell? ⟨b, 1, none⟩ = some v1 ∧ m.cell? ⟨b, 2, none⟩ = some v2 ∧ m.cell? ⟨b, 3, none⟩ = some v3) (h : b < m.heap.size := by first | omega | (simp; done) | (simp; omega)) (hn : R ≠ b := by omega) : w.cell? ⟨b, 0, none⟩ = some v0 ∧ w.cell? ⟨b, 1, none⟩ = some v1 ∧ w.cell? ⟨b, 2, none⟩ = some v2 ∧ w.cell? ⟨b, 3, none⟩ = some v3 := by
 obtain ⟨e0, e1, e2, e3⟩ := e
 exact ⟨gc k e0 h hn, gc k e1 h hn, gc k e2 h hn, gc k e3 h hn⟩

theorem k5 (b : Nat) (v0 v1 v2 v3 v4 : Value) {B : Nat} {m w : World} (k : Below B m w) (e : m.cell? ⟨b, 0, none⟩ = some v0 ∧ m.cell? ⟨b, 1, none⟩ = some v1 ∧ m.cell? ⟨b, 2, none⟩ = some v2 ∧ m.cell? ⟨b, 3, none⟩ = some v3 ∧ m.cell? ⟨b, 4, none⟩ = some v4) (h : b < B := by first | omega | (simp; done) | (simp; omega)) : w.cell? ⟨b, 0, none⟩ = some v0 ∧ w.cell? ⟨b, 1, none⟩ = some v1 ∧ w.cell? ⟨b, 2, none⟩ = some v2 ∧ w.cell? ⟨b, 3, none⟩ = some v3 ∧ w.cell? ⟨b, 4, none⟩ = some v4 := by
 obtain ⟨e0, e1, e2, e3, e4⟩ := e
 exact ⟨kc k e0 h, kc k e1 h, kc k e2 h, kc k e3 h, kc k e4 h⟩

theorem g5 (b : Nat) (v0 v1 v2 v3 v4 : Value) {R : Nat} {m w : World} (k : m.grownBy w (some R)) (e : m.cell? ⟨b, 0, none⟩ = some v0 ∧ m.cell? ⟨b, 1, none⟩ = some v1 ∧ m.cell? ⟨b, 2, none⟩ = some v2 ∧ m.cell? ⟨b, 3, none⟩ = some v3 ∧ m.cell? ⟨b, 4, none⟩ = some v4) (h : b < m.heap.size := by first | omega | (simp; done) | (simp; omega)) (hn : R ≠ b := by omega) : w.cell? ⟨b, 0, none⟩ = some v0 ∧ w.cell? ⟨b, 1, none⟩ = some v1 ∧ w.cell? ⟨b, 2, none⟩ = some v2 ∧ w.cell? ⟨b, 3, none⟩ = some v3 ∧ w.cell? ⟨b, 4, none⟩ = some v4 := by
 obtain ⟨e0, e1, e2, e3, e4⟩ := e
 exact ⟨gc k e0 h hn, gc k e1 h hn, gc k e2 h hn, gc k e3 h hn, gc k e4 h hn⟩

theorem k5f (b : Nat) (v0 v1 v2 v3 v4 : Value) {B : Nat} {m w : World} (k : Below B m w) (e : m.cell? ⟨b, 0, none⟩ = some v0 ∧ m.frozen? ⟨b, 0, none⟩ = false ∧ m.cell? ⟨b, 1, none⟩ = some v1 ∧ m.frozen? ⟨b, 1, none⟩ = false ∧ m.cell? ⟨b, 2, none⟩ = some v2 ∧ m.frozen? ⟨b, 2, none⟩ = false ∧ m.cell? ⟨b, 3, none⟩ = some v3 ∧ m.frozen? ⟨b, 3, none⟩ = false ∧ m.cell? ⟨b, 4, none⟩ = some v4 ∧ m.frozen? ⟨b, 4, none⟩ = false) (h : b < B := by first | omega | (simp; done) | (simp; omega)) : w.cell? ⟨b, 0, none⟩ = some v0 ∧ w.frozen? ⟨b, 0, none⟩ = false ∧ w.cell? ⟨b, 1, none⟩ = some v1 ∧ w.frozen? ⟨b, 1, none⟩ = false ∧ w.cell? ⟨b, 2, none⟩ = some v2 ∧ w.frozen? ⟨b, 2, none⟩ = false ∧ w.cell? ⟨b, 3, none⟩ = some v3 ∧ w.frozen? ⟨b, 3, none⟩ = false ∧ w.cell? ⟨b, 4, none⟩ = some v4 ∧ w.frozen? ⟨b, 4, none⟩ = false := by
 obtain ⟨e0, f0, e1, f1, e2, f2, e3, f3, e4, f4⟩ := e
 exact ⟨kc k e0 h, kf k f0 h, kc k e1 h, kf k f1 h, kc k e2 h, kf k f2 h, kc k e3 h, kf k f3 h, kc k e4 h, kf k f4 h⟩

theorem g5f (b : Nat) (v0 v1 v2 v3 v4 : Value) {R : Nat} {m w : World} (k : m.grownBy w (some R)) (e : m.cell? ⟨b, 0, none⟩ = some v0 ∧ m.frozen? ⟨b, 0, none⟩ = false ∧ m.cell? ⟨b, 1, none⟩ = some v1 ∧ m.frozen? ⟨b, 1, none⟩ = false ∧ m.cell? ⟨b, 2, none⟩ = some v2 ∧ m.frozen? ⟨b, 2, none⟩ = false ∧ m.cell? ⟨b, 3, none⟩ = some v3 ∧ m.frozen? ⟨b, 3, none⟩ = false ∧ m.cell? ⟨b, 4, none⟩ = some v4 ∧ m.frozen? ⟨b, 4, none⟩ = false) (h : b < m.heap.size := by first | omega | (simp; done) | (simp; omega)) (hn : R ≠ b := by omega) : w.cell? ⟨b, 0, none⟩ = some v0 ∧ w.frozen? ⟨b, 0, none⟩ = false ∧ w.cell? ⟨b, 1, none⟩ = some v1 ∧ w.frozen? ⟨b, 1, none⟩ = false ∧ w.cell? ⟨b, 2, none⟩ = some v2 ∧ w.frozen? ⟨b, 2, none⟩ = false ∧ w.cell? ⟨b, 3, none⟩ = some v3 ∧ w.frozen? ⟨b, 3, none⟩ = false ∧ w.cell? ⟨b, 4, none⟩ = some v4 ∧ w.frozen? ⟨b, 4, none⟩ = false := by
 obtain ⟨e0, f0, e1, f1, e2, f2, e3, f3, e4, f4⟩ := e
 exact ⟨gc k e0 h hn, gf k f0 h hn, gc k e1 h hn, gf k f1 h hn, gc k e2 h hn, gf k f2 h hn, gc k e3 h hn, gf k f3 h hn, gc k e4 h hn, gf k f4 h hn⟩

theorem k6 (b : Nat) (v0 v1 v2 v3 v4 v5 : Value) {B : Nat} {m w : World} (k : Below B m w) (e : m.cell? ⟨b, 0, none⟩ = some v0 ∧ m.cell? ⟨b, 1, none⟩ = some v1 ∧ m.cell? ⟨b, 2, none⟩ = some v2 ∧ m.cell? ⟨b, 3, none⟩ = some v3 ∧ m.cell? ⟨b, 4, none⟩ = some v4 ∧ m.cell? ⟨b, 5, none⟩ = some v5) (h : b < B := by first | omega | (simp; done) | (simp; omega)) : w.cell? ⟨b, 0, none⟩ = some v0 ∧ w.cell? ⟨b, 1, none⟩ = some v1 ∧ w.cell? ⟨b, 2, none⟩ = some v2 ∧ w.cell? ⟨b, 3, none⟩ = some v3 ∧ w.cell? ⟨b, 4, none⟩ = some v4 ∧ w.cell? ⟨b, 5, none⟩ = some v5 := by
 obtain ⟨e0, e1, e2, e3, e4, e5⟩ := e
 exact ⟨kc k e0 h, kc k e1 h, kc k e2 h, kc k e3 h, kc k e4 h, kc k e5 h⟩

theorem g6 (b : Nat) (v0 v1 v2 v3 v4 v5 : Value) {R : Nat} {m w : World} (k : m.grownBy w (some R)) (e : m.cell? ⟨b, 0, none⟩ = some v0 ∧ m.cell? ⟨b, 1, none⟩ = some v1 ∧ m.cell? ⟨b, 2, none⟩ = some v2 ∧ m.cell? ⟨b, 3, none⟩ = some v3 ∧ m.cell? ⟨b, 4, none⟩ = some v4 ∧ m.cell? ⟨b, 5, none⟩ = some v5) (h : b < m.heap.size := by first | omega | (simp; done) | (simp; omega)) (hn : R ≠ b := by omega) : w.cell? ⟨b, 0, none⟩ = some v0 ∧ w.cell? ⟨b, 1, none⟩ = some v1 ∧ w.cell? ⟨b, 2, none⟩ = some v2 ∧ w.cell? ⟨b, 3, none⟩ = some v3 ∧ w.cell? ⟨b, 4, none⟩ = some v4 ∧ w.cell? ⟨b, 5, none⟩ = some v5 := by
 obtain ⟨e0, e1, e2, e3, e4, e5⟩ := e
 exact ⟨gc k e0 h hn, gc k e1 h hn, gc k e2 h hn, gc k e3 h hn, gc k e4 h hn, gc k e5 h hn⟩

theorem k6f (b : Nat) (v0 v1 v2 v3 v4 v5 : Value) {B : Nat} {m w : World} (k : Below B m w) (e : m.cell? ⟨b, 0, none⟩ = some v0 ∧ m.frozen? ⟨b, 0, none⟩ = false ∧ m.cell? ⟨b, 1, none⟩ = some v1 ∧ m.frozen? ⟨b, 1, none⟩ = false ∧ m.cell? ⟨b, 2, none⟩ = some v2 ∧ m.frozen? ⟨b, 2, none⟩ = false ∧ m.cell? ⟨b, 3, none⟩ = some v3 ∧ m.frozen? ⟨b, 3, none⟩ = false ∧ m.cell? ⟨b, 4, none⟩ = some v4 ∧ m.frozen? ⟨b, 4, none⟩ = false ∧ m.cell? ⟨b, 5, none⟩ = some v5 ∧ m.frozen? ⟨b, 5, none⟩ = false) (h : b < B := by first | omega | (simp; done) | (simp; omega)) : w.cell? ⟨b, 0, none⟩ = some v0 ∧ w.frozen? ⟨b, 0, none⟩ = false ∧ w.cell? ⟨b, 1, none⟩ = some v1 ∧ w.frozen? ⟨b, 1, none⟩ = false ∧ w.cell? ⟨b, 2, none⟩ = some v2 ∧ w.frozen? ⟨b, 2, none⟩ = false ∧ w.cell? ⟨b, 3, none⟩ = some v3 ∧ w.frozen? ⟨b, 3, none⟩ = false ∧ w.cell? ⟨b, 4, none⟩ = some v4 ∧ w.frozen? ⟨b, 4, none⟩ = false ∧ w.cell? ⟨b, 5, none⟩ = some v5 ∧ w.frozen? ⟨b, 5, none⟩ = false := by
 obtain ⟨e0, f0, e1, f1, e2, f2, e3, f3, e4, f4, e5, f5⟩ := e
 exact ⟨kc k e0 h, kf k f0 h, kc k e1 h, kf k f1 h, kc k e2 h, kf k f2 h, kc k e3 h, kf k f3 h, kc k e4 h, kf k f4 h, kc k e5 h, kf k f5 h⟩

theorem g6f (b : Nat) (v0 v1 v2 v3 v4 v5 : Value) {R : Nat} {m w : World} (k : m.grownBy w (some R)) (e : m.cell? ⟨b, 0, none⟩ = some v0 ∧ m.frozen? ⟨b, 0, none⟩ = false ∧ m.cell? ⟨b, 1, none⟩ = some v1 ∧ m.frozen? ⟨b, 1, none⟩ = false ∧ m.cell? ⟨b, 2, none⟩ = some v2 ∧ m.frozen? ⟨b, 2, none⟩ = false ∧ m.cell? ⟨b, 3, none⟩ = some v3 ∧ m.frozen? ⟨b, 3, none⟩ = false ∧ m.cell? ⟨b, 4, none⟩ = some v4 ∧ m.frozen? ⟨b, 4, none⟩ = false ∧ m.cell? ⟨b, 5, none⟩ = some v5 ∧ m.frozen? ⟨b, 5, none⟩ = false) (h : b < m.heap.size := by first | omega | (simp; done) | (simp; omega)) (hn : R ≠ b := by omega) : w.cell? ⟨b, 0, none⟩ = some v0 ∧ w.frozen? ⟨b, 0, none⟩ = false ∧ w.cell? ⟨b, 1, none⟩ = some v1 ∧ w.frozen? ⟨b, 1, none⟩ = false ∧ w.cell? ⟨b, 2, none⟩ = some v2 ∧ w.frozen? ⟨b, 2, none⟩ = false ∧ w.cell? ⟨b, 3, none⟩ = some v3 ∧ w.frozen? ⟨b, 3, none⟩ = false ∧ w.cell? ⟨b, 4, none⟩ = some v4 ∧ w.frozen? ⟨b, 4, none⟩ = false ∧ w.cell? ⟨b, 5, none⟩ = some v5 ∧ w.frozen? ⟨b, 5, none⟩ = false := by
 obtain ⟨e0, f0, e1, f1, e2, f2, e3, f3, e4, f4, e5, f5⟩ := e
 exact ⟨gc k e0 h hn, gf k f0 h hn, gc k e1 h hn, gf k f1 h hn, gc k e2 h hn, gf k f2 h hn, gc k e3 h hn, gf k f3 h hn, gc k e4 h hn, gf k f4 h hn, gc k e5 h hn, gf k f5 h hn⟩

theorem k7 (b : Nat) (v0 v1 v2 v3 v4 v5 v6 : Value) {B : Nat} {m w : World} (k : Below B m w) (e : m.cell? ⟨b, 0, none⟩ = some v0 ∧ m.cell? ⟨b, 1, none⟩ = some v1 ∧ m.cell? ⟨b, 2, none⟩ = some v2 ∧ m.cell? ⟨b, 3, none⟩ = some v3 ∧ m.cell? ⟨b, 4, none⟩ = some v4 ∧ m.cell? ⟨b, 5, none⟩ = some v5 ∧ m.cell? ⟨b, 6, none⟩ = some v6) (h : b < B := by first | omega | (simp; done) | (simp; omega)) : w.cell? ⟨b, 0, none⟩ = some v0 ∧ w.cell? ⟨b, 1, none⟩ = some v1 ∧ w.cell? ⟨b, 2, none⟩ = some v2 ∧ w.cell? ⟨b, 3, none⟩ = some v3 ∧ w.cell? ⟨b, 4, none⟩ = some v4 ∧ w.cell? ⟨b, 5, none⟩ = some v5 ∧ w.cell? ⟨b, 6, none⟩ = some v6 := by
 obtain ⟨e0, e1, e2, e3, e4, e5, e6⟩ := e
 exact ⟨kc k e0 h, kc k e1 h, kc k e2 h, kc k e3 h, kc k e4 h, kc k e5 h, kc k e6 h⟩

theorem g7 (b : Nat) (v0 v1 v2 v3 v4 v5 v6 : Value) {R : Nat} {m w : World} (k : m.grownBy w (some R)) (e : m.cell? ⟨b, 0, none⟩ = some v0 ∧ m.cell? ⟨b, 1, none⟩ = some v1 ∧ m.cell? ⟨b, 2, none⟩ = some v2 ∧ m.cell? ⟨b, 3, none⟩ = some v3 ∧ m.cell? ⟨b, 4, none⟩ = some v4 ∧ m.cell? ⟨b, 5, none⟩ = some v5 ∧ m.cell? ⟨b, 6, none⟩ = some v6) (h : b < m.heap.size := by first | omega | (simp; done) | (simp; omega)) (hn : R ≠ b := by omega) : w.cell? ⟨b, 0, none⟩ = some v0 ∧ w.cell? ⟨b, 1, none⟩ = some v1 ∧ w.cell? ⟨b, 2, none⟩ = some v2 ∧ w.cell? ⟨b, 3, none⟩ = some v3 ∧ w.cell? ⟨b, 4, none⟩ = some v4 ∧ w.cell? ⟨b, 5, none⟩ = some v5 ∧ w.cell? ⟨b, 6, none⟩ = some v6 := by
 obtain ⟨e0, e1, e2, e3, e4, e5, e6⟩ := e
 exact ⟨gc k e0 h hn, gc k e1 h hn, gc k e2 h hn, gc k e3 h hn, gc k e4 h hn, gc k e5 h hn, gc k e6 h hn⟩

theorem k8 (b : Nat) (v0 v1 v2 v3 v4 v5 v6 v7 : Value) {B : Nat} {m w : World} (k : Below B m w) (e : m.cell? ⟨b, 0, none⟩ = some v0 ∧ m.cell? ⟨b, 1, none⟩ = some v1 ∧ m.cell? ⟨b, 2, none⟩ = some v2 ∧ m.cell? ⟨b, 3, none⟩ = some v3 ∧ m.cell? ⟨b, 4, none⟩ = some v4 ∧ m.cell? ⟨b, 5, none⟩ = some v5 ∧ m.cell? ⟨b, 6, none⟩ = some v6 ∧ m.cell? ⟨b, 7, none⟩ = some v7) (h : b < B := by first | omega | (simp; done) | (simp; omega)) : w.cell? ⟨b, 0, none⟩ = some v0 ∧ w.cell? ⟨b, 1, none⟩ = some v1 ∧ w.cell? ⟨b, 2, none⟩ = some v2 ∧ w.cell? ⟨b, 3, none⟩ = some v3 ∧ w.cell? ⟨b, 4, none⟩ = some v4 ∧ w.cell? ⟨b, 5, none⟩ = some v5 ∧ w.cell? ⟨b, 6, none⟩ = some v6 ∧ w.cell? ⟨b, 7, none⟩ = some v7 := by
 obtain ⟨e0, e1, e2, e3, e4, e5, e6, e7⟩ := e
 exact ⟨kc k e0 h, kc k e1 h, kc k e2 h, kc k e3 h, kc k e4 h, kc k e5 h, kc k e6 h, kc k e7 h⟩

theorem g8 (b : Nat) (v0 v1 v2 v3 v4 v5 v6 v7 : Value) {R : Nat} {m w : World} (k : m.grownBy w (some R)) (e : m.cell? ⟨b, 0, none⟩ = some v0 ∧ m.cell? ⟨b, 1, none⟩ = some v1 ∧ m.cell? ⟨b, 2, none⟩ = some v2 ∧ m.cell? ⟨b, 3, none⟩ = some v3 ∧ m.cell? ⟨b, 4, none⟩ = some v4 ∧ m.cell? ⟨b, 5, none⟩ = some v5 ∧ m.cell? ⟨b, 6, none⟩ = some v6 ∧ m.cell? ⟨b, 7, none⟩ = some v7) (h : b < m.heap.size := by first | omega | (simp; done) | (simp; omega)) (hn : R ≠ b := by omega) : w.cell? ⟨b, 0, none⟩ = some v0 ∧ w.cell? ⟨b, 1, none⟩ = some v1 ∧ w.cell? ⟨b, 2, none⟩ = some v2 ∧ w.cell? ⟨b, 3, none⟩ = some v3 ∧ w.cell? ⟨b, 4, none⟩ = some v4 ∧ w.cell? ⟨b, 5, none⟩ = some v5 ∧ w.cell? ⟨b, 6, none⟩ = some v6 ∧ w.cell? ⟨b, 7, none⟩ = some v7 := by
 obtain ⟨e0, e1, e2, e3, e4, e5, e6, e7⟩ := e
 exact ⟨gc k e0 h hn, gc k e1 h hn, gc k e2 h hn, gc k e3 h hn, gc k e4 h hn, gc k e5 h hn, gc k e6 h hn, gc k e7 h hn⟩

theorem k9 (b : Nat) (v0 v1 v2 v3 v4 v5 v6 v7 v8 : Value) {B : Nat} {m w : World} (k : Below B m w) (e : m.cell? ⟨b, 0, none⟩ = some v0 ∧ m.cell? ⟨b, 1, none⟩ = some v1 ∧ m.cell? ⟨b, 2, none⟩ = some v2 ∧ m.cell? ⟨b, 3, none⟩ = some v3 ∧ m.cell? ⟨b, 4, none⟩ = some v4 ∧ m.cell? ⟨b, 5, none⟩ = some v5 ∧ m.cell? ⟨b, 6, none⟩ = some v6 ∧ m.cell? ⟨b, 7, none⟩ = some v7 ∧ m.cell? ⟨b, 8, none⟩ = some v8) (h : b < B := by first | omega | (simp; done) | (simp; omega)) : w.cell? ⟨b, 0, none⟩ = some v0 ∧ w.cell? ⟨b, 1, none⟩ = some v1 ∧ w.cell? ⟨b, 2, none⟩ = some v2 ∧ w.cell? ⟨b, 3, none⟩ = some v3 ∧ w.cell? ⟨b, 4, none⟩ = some v4 ∧ w.cell? ⟨b, 5, none⟩ = some v5 ∧ w.cell? ⟨b, 6, none⟩ = some v6 ∧ w.cell? ⟨b, 7, none⟩ = some v7 ∧ w.cell? ⟨b, 8, none⟩ = some v8 := by
 obtain ⟨e0, e1, e2, e3, e4, e5, e6, e7, e8⟩ := e
 exact ⟨kc k e0 h, kc k e1 h, kc k e2 h, kc k e3 h, kc k e4 h, kc k e5 h, kc k e6 h, kc k e7 h, kc k e8 h⟩

theorem g9 (b : Nat) (v0 v1 v2 v3 v4 v5 v6 v7 v8 : Value) {R : Nat} {m w : World} (k : m.grownBy w (some R)) (e : m.cell? ⟨b, 0, none⟩ = some v0 ∧ m.cell? ⟨b, 1, none⟩ = some v1 ∧ m.cell? ⟨b, 2, none⟩ = some v2 ∧ m.cell? ⟨b, 3, none⟩ = some v3 ∧ m.cell? ⟨b, 4, none⟩ = some v4 ∧ m.cell? ⟨b, 5, none⟩ = some v5 ∧ m.cell? ⟨b, 6, none⟩ = some v6 ∧ m.cell? ⟨b, 7, none⟩ = some v7 ∧ m.cell? ⟨b, 8, none⟩ = some v8) (h : b < m.heap.size := by first | omega | (simp; done) | (simp; omega)) (hn : R ≠ b := by omega) : w.cell? ⟨b, 0, none⟩ = some v0 ∧ w.cell? ⟨b, 1, none⟩ = some v1 ∧ w.cell? ⟨b, 2, none⟩ = some v2 ∧ w.cell? ⟨b, 3, none⟩ = some v3 ∧ w.cell? ⟨b, 4, none⟩ = some v4 ∧ w.cell? ⟨b, 5, none⟩ = some v5 ∧ w.cell? ⟨b, 6, none⟩ = some v6 ∧ w.cell? ⟨b, 7, none⟩ = some v7 ∧ w.cell? ⟨b, 8, none⟩ = some v8 := by
 obtain ⟨e0, e1, e2, e3, e4, e5, e6, e7, e8⟩ := e
 exact ⟨gc k e0 h hn, gc k e1 h hn, gc k e2 h hn, gc k e3 h hn, gc k e4 h hn, gc k e5 h hn, gc k e6 h hn, gc k e7 h hn, gc k e8 h hn⟩

theorem k10 (b : Nat) (v0 v1 v2 v3 v4 v5 v6 v7 v8 v9 : Value) {B : Nat} {m w : World} (k : Below B m w) (e : m.cell? ⟨b, 0, none⟩ = some v0 ∧ m.cell? ⟨b, 1, none⟩ = some v1 ∧ m.cell? ⟨b, 2, none⟩ = some v2 ∧ m.cell? ⟨b, 3, none⟩ = some v3 ∧ m.cell? ⟨b, 4, none⟩ = some v4 ∧ m.cell? ⟨b, 5, none⟩ = some v5 ∧ m.cell? ⟨b, 6, none⟩ = some v6 ∧ m.cell? ⟨b, 7, none⟩ = some v7 ∧ m.cell? ⟨b, 8, none⟩ = some v8 ∧ m.cell? ⟨b, 9, none⟩ = some v9) (h : b < B := by first | omega | (simp; done) | (simp; omega)) : w.cell? ⟨b, 0, none⟩ = some v0 ∧ w.cell? ⟨b, 1, none⟩ = some v1 ∧ w.cell? ⟨b, 2, none⟩ = some v2 ∧ w.cell? ⟨b, 3, none⟩ = some v3 ∧ w.cell? ⟨b, 4, none⟩ = some v4 ∧ w.cell? ⟨b, 5, none⟩ = some v5 ∧ w.cell? ⟨b, 6, none⟩ = some v6 ∧ w.cell? ⟨b, 7, none⟩ = some v7 ∧ w.cell? ⟨b, 8, none⟩ = some v8 ∧ w.cell? ⟨b, 9, none⟩ = some v9 := by
 obtain ⟨e0, e1, e2, e3, e4, e5, e6, e7, e8, e9⟩ := e
 exact ⟨kc k e0 h, kc k e1 h, kc k e2 h, kc k e3 h, kc k e4 h, kc k e5 h, kc k e6 h, kc k e7 h, kc k e8 h, kc k e9 h⟩

theorem g10 (b : Nat) (v0 v1 v2 v3 v4 v5 v6 v7 v8 v9 : Value) {R : Nat} {m w : World} (k : m.grownBy w (some R)) (e : m.cell? ⟨b, 0, none⟩ = some v0 ∧ m.cell? ⟨b, 1, none⟩ = some v1 ∧ m.cell? ⟨b, 2, none⟩ = some v2 ∧ m.cell? ⟨b, 3, none⟩ = some v3 ∧ m.cell? ⟨b, 4, none⟩ = some v4 ∧ m.cell? ⟨b, 5, none⟩ = some v5 ∧ m.cell? ⟨b, 6, none⟩ = some v6 ∧ m.cell? ⟨b, 7, none⟩ = some v7 ∧ m.cell? ⟨b, 8, none⟩ = some v8 ∧ m.cell? ⟨b, 9, none⟩ = some v9) (h : b < m.heap.size := by first | omega | (simp; done) | (simp; omega)) (hn : R ≠ b := by omega) : w.cell? ⟨b, 0, none⟩ = some v0 ∧ w.cell? ⟨b, 1, none⟩ = some v1 ∧ w.cell? ⟨b, 2, none⟩ = some v2 ∧ w.cell? ⟨b, 3, none⟩ = some v3 ∧ w.cell? ⟨b, 4, none⟩ = some v4 ∧ w.cell? ⟨b, 5, none⟩ = some v5 ∧ w.cell? ⟨b, 6, none⟩ = some v6 ∧ w.cell? ⟨b, 7, none⟩ = some v7 ∧ w.cell? ⟨b, 8, none⟩ = some v8 ∧ w.cell? ⟨b, 9, none⟩ = some v9 := by
 obtain ⟨e0, e1, e2, e3, e4, e5, e6, e7, e8, e9⟩ := e
 exact ⟨gc k e0 h hn, gc k e1 h hn, gc k e2 h hn, gc k e3 h hn, gc k e4 h hn, gc k e5 h hn, gc k e6 h hn, gc k e7 h hn, gc k e8 h hn, gc k e9 h hn⟩

theorem k11 (b : Nat) (v0 v1 v2 v3 v4 v5 v6 v7 v8 v9 v10 : Value) {B : Nat} {m w : World} (k : Below B m w) (e : m.cell? ⟨b, 0, none⟩ = some v0 ∧ m.cell? ⟨b, 1, none⟩ = some v1 ∧ m.cell? ⟨b, 2, none⟩ = some v2 ∧ m.cell? ⟨b, 3, none⟩ = some v3 ∧ m.cell? ⟨b, 4, none⟩ = some v4 ∧ m.cell? ⟨b, 5, none⟩ = some v5 ∧ m.cell? ⟨b, 6, none⟩ = some v6 ∧ m.cell? ⟨b, 7, none⟩ = some v7 ∧ m.cell? ⟨b, 8, none⟩ = some v8 ∧ m.cell? ⟨b, 9, none⟩ = some v9 ∧ m.cell? ⟨b, 10, none⟩ = some v10) (h : b < B := by first | omega | (simp; done) | (simp; omega)) : w.cell? ⟨b, 0, none⟩ = some v0 ∧ w.cell? ⟨b, 1, none⟩ = some v1 ∧ w.cell? ⟨b, 2, none⟩ = some v2 ∧ w.cell? ⟨b, 3, none⟩ = some v3 ∧ w.cell? ⟨b, 4, none⟩ = some v4 ∧ w.cell? ⟨b, 5, none⟩ = some v5 ∧ w.cell? ⟨b, 6, none⟩ = some v6 ∧ w.cell? ⟨b, 7, none⟩ = some v7 ∧ w.cell? ⟨b, 8, none⟩ = some v8 ∧ w.cell? ⟨b, 9, none⟩ = some v9 ∧ w.cell? ⟨b, 10, none⟩ = some v10 := by
 obtain ⟨e0, e1, e2, e3, e4, e5, e6, e7, e8, e9, e10⟩ := e
 exact ⟨kc k e0 h, kc k e1 h, kc k e2 h, kc k e3 h, kc k e4 h, kc k e5 h, kc k e6 h, kc k e7 h, kc k e8 h, kc k e9 h, kc k e10 h⟩

theorem g11 (b : Nat) (v0 v1 v2 v3 v4 v5 v6 v7 v8 v9 v10 : Value) {R : Nat} {m w : World} (k : m.grownBy w (some R)) (e : m.cell? ⟨b, 0, none⟩ = some v0 ∧ m.cell? ⟨b, 1, none⟩ = some v1 ∧ m.cell? ⟨b, 2, none⟩ = some v2 ∧ m.cell? ⟨b, 3, none⟩ = some v3 ∧ m.cell? ⟨b, 4, none⟩ = some v4 ∧ m.cell? ⟨b, 5, none⟩ = some v5 ∧ m.cell? ⟨b, 6, none⟩ = some v6 ∧ m.cell? ⟨b, 7, none⟩ = some v7 ∧ m.cell? ⟨b, 8, none⟩ = some v8 ∧ m.cell? ⟨b, 9, none⟩ = some v9 ∧ m.cell? ⟨b, 10, none⟩ = some v10) (h : b < m.heap.size := by first | omega | (simp; done) | (simp; omega)) (hn : R ≠ b := by omega) : w.cell? ⟨b, 0, none⟩ = some v0 ∧ w.cell? ⟨b, 1, none⟩ = some v1 ∧ w.cell? ⟨b, 2, none⟩ = some v2 ∧ w.cell? ⟨b, 3, none⟩ = some v3 ∧ w.cell? ⟨b, 4, none⟩ = some v4 ∧ w.cell? ⟨b, 5, none⟩ = some v5 ∧ w.cell? ⟨b, 6, none⟩ = some v6 ∧ w.cell? ⟨b, 7, none⟩ = some v7 ∧ w.cell? ⟨b, 8, none⟩ = some v8 ∧ w.cell? ⟨b, 9, none⟩ = some v9 ∧ w.cell? ⟨b, 10, none⟩ = some v10 := by
 obtain ⟨e0, e1, e2, e3, e4, e5, e6, e7, e8, e9, e10⟩ := e
 exact ⟨gc k e0 h hn, gc k e1 h hn, gc k e2 h hn, gc k e3 h hn, gc k e4 h hn, gc k e5 h hn, gc k e6 h hn, gc k e7 h hn, gc k e8 h hn, gc k e9 h hn, gc k e10 h hn⟩

theorem k11f (b : Nat) (v0 v1 v2 v3 v4 v5 v6 v7 v8 v9 v10 : Value) {B : Nat} {m w : World} (k : Below B m w) (e : m.cell? ⟨b, 0, none⟩ = some v0 ∧ m.frozen? ⟨b, 0, none⟩ = false ∧ m.cell? ⟨b, 1, none⟩ = some v1 ∧ m.frozen? ⟨b, 1, none⟩ = false ∧ m.cell? ⟨b, 2, none⟩ = some v2 ∧ m.frozen? ⟨b, 2, none⟩ = false ∧ m.cell? ⟨b, 3, none⟩ = some v3 ∧ m.frozen? ⟨b, 3, none⟩ = false ∧ m.cell? ⟨b, 4, none⟩ = some v4 ∧ m.frozen? ⟨b, 4, none⟩ = false ∧ m.cell? ⟨b, 5, none⟩ = some v5 ∧ m.frozen? ⟨b, 5, none⟩ = false ∧ m.cell? ⟨b, 6, none⟩ = some v6 ∧ m.frozen? ⟨b, 6, none⟩ = false ∧ m.cell? ⟨b, 7, none⟩ = some v7 ∧ m.frozen? ⟨b, 7, none⟩ = false ∧ m.cell? ⟨b, 8, none⟩ = some v8 ∧ m.frozen? ⟨b, 8, none⟩ = false ∧ m.cell? ⟨b, 9, none⟩ = some v9 ∧ m.frozen? ⟨b, 9, none⟩ = false ∧ m.cell? ⟨b, 10, none⟩ = some v10 ∧ m.frozen? ⟨b, 10, none⟩ = false) (h : b < B := by first | omega | (simp; done) | (simp; omega)) : w.cell? ⟨b, 0, none⟩ = some v0 ∧ w.frozen? ⟨b, 0, none⟩ = false ∧ w.cell? ⟨b, 1, none⟩ = some v1 ∧ w.frozen? ⟨b, 1, none⟩ = false ∧ w.cell? ⟨b, 2, none⟩ = some v2 ∧ w.frozen? ⟨b, 2, none⟩ = false ∧ w.cell? ⟨b, 3, none⟩ = some v3 ∧ w.frozen? ⟨b, 3, none⟩ = false ∧ w.cell? ⟨b, 4, none⟩ = some v4 ∧ w.frozen? ⟨b, 4, none⟩ = false ∧ w.cell? ⟨b, 5, none⟩ = some v5 ∧ w.frozen? ⟨b, 5, none⟩ = false ∧ w.cell? ⟨b, 6, none⟩ = some v6 ∧ w.frozen? ⟨b, 6, none⟩ = false ∧ w.cell? ⟨b, 7, none⟩ = some v7 ∧ w.frozen? ⟨b, 7, none⟩ = false ∧ w.cell? ⟨b, 8, none⟩ = some v8 ∧ w.frozen? ⟨b, 8, none⟩ = false ∧ w.cell? ⟨b, 9, none⟩ = some v9 ∧ w.frozen? ⟨b, 9, none⟩ = false ∧ w.cell? ⟨b, 10, none⟩ = some v10 ∧ w.frozen? ⟨b, 10, none⟩ = false := by
 obtain ⟨e0, f0, e1, f1, e2, f2, e3, f3, e4, f4, e5, f5, e6, f6, e7, f7, e8, f8, e9, f9, e10, f10⟩ := e
 exact ⟨kc k e0 h, kf k f0 h, kc k e1 h, kf k f1 h, kc k e2 h, kf k f2 h, kc k e3 h, kf k f3 h, kc k e4 h, kf k f4 h, kc k e5 h, kf k f5 h, kc k e6 h, kf k f6 h, kc k e7 h, kf k f7 h, kc k e8 h, kf k f8 h, kc k e9 h, kf k f9 h, kc k e10 h, kf k f10 h⟩

theorem g11f (b : Nat) (v0 v1 v2 v3 v4 v5 v6 v7 v8 v9 v10 : Value) {R : Nat} {m w : World} (k : m.grownBy w (some R)) (e : m.cell? ⟨b, 0, none⟩ = some v0 ∧ m.frozen? ⟨b, 0, none⟩ = false ∧ m.cell? ⟨b, 1, none⟩ = some v1 ∧ m.frozen? ⟨b, 1, none⟩ = false ∧ m.cell? ⟨b, 2, none⟩ = some v2 ∧ m.frozen? ⟨b, 2, none⟩ = false ∧ m.cell? ⟨b, 3, none⟩ = some v3 ∧ m.frozen? ⟨b, 3, none⟩ = false ∧ m.cell? ⟨b, 4, none⟩ = some v4 ∧ m.frozen? ⟨b, 4, none⟩ = false ∧ m.cell? ⟨b, 5, none⟩ = some v5 ∧ m.frozen? ⟨b, 5, none⟩ = false ∧ m.cell? ⟨b, 6, none⟩ = some v6 ∧ m.frozen? ⟨b, 6, none⟩ = false ∧ m.cell? ⟨b, 7, none⟩ = some v7 ∧ m.frozen? ⟨b, 7, none⟩ = false ∧ m.cell? ⟨b, 8, none⟩ = some v8 ∧ m.frozen? ⟨b, 8, none⟩ = false ∧ m.cell? ⟨b, 9, none⟩ = some v9 ∧ m.frozen? ⟨b, 9, none⟩ = false ∧ m.cell? ⟨b, 10, none⟩ = some v10 ∧ m.frozen? ⟨b, 10, none⟩ = false) (h : b < m.heap.size := by first | omega | (simp; done) | (simp; omega)) (hn : R ≠ b := by omega) : w.cell? ⟨b, 0, none⟩ = some v0 ∧ w.frozen? ⟨b, 0, none⟩ = false ∧ w.cell? ⟨b, 1, none⟩ = some v1 ∧ w.frozen? ⟨b, 1, none⟩ = false ∧ w.cell? ⟨b, 2, none⟩ = some v2 ∧ w.frozen? ⟨b, 2, none⟩ = false ∧ w.cell? ⟨b, 3, none⟩ = some v3 ∧ w.frozen? ⟨b, 3, none⟩ = false ∧ w.cell? ⟨b, 4, none⟩ = some v4 ∧ w.frozen? ⟨b, 4, none⟩ = false ∧ w.cell? ⟨b, 5, none⟩ = some v5 ∧ w.frozen? ⟨b, 5, none⟩ = false ∧ w.cell? ⟨b, 6, none⟩ = some v6 ∧ w.frozen? ⟨b, 6, none⟩ = false ∧ w.cell? ⟨b, 7, none⟩ = some v7 ∧ w.frozen? ⟨b, 7, none⟩ = false ∧ w.cell? ⟨b, 8, none⟩ = some v8 ∧ w.frozen? ⟨b, 8, none⟩ = false ∧ w.cell? ⟨b, 9, none⟩ = some v9 ∧ w.frozen? ⟨b, 9, none⟩ = false ∧ w.cell? ⟨b, 10, none⟩ = some v10 ∧ w.frozen? ⟨b, 10, none⟩ = false := by
 obtain ⟨e0, f0, e1, f1, e2, f2, e3, f3, e4, f4, e5, f5, e6, f6, e7, f7, e8, f8, e9, f9, e10, f10⟩ := e
 exact ⟨gc k e0 h hn, gf k f0 h hn, gc k e1 h hn, gf k f1 h hn, gc k e2 h hn, gf k f2 h hn, gc k e3 h hn, gf k f3 h hn, gc k e4 h hn, gf k f4 h hn, gc k e5 h hn, gf k f5 h hn, gc k e6 h hn, gf k f6 h hn, gc k e7 h hn, gf k f7 h hn, gc k e8 h hn, gf k f8 h hn, gc k e9 h hn, gf k f9 h hn, gc k e10 h hn, gf k f10 h hn⟩
theorem hH {P : Prop} (h : P) : RowKit.Hid P := Lib.hid h

theorem mJ {P : Prop} (h : P := by first | omega | (simp; done) | (simp; omega)) : P := h

theorem kJ {P : Prop} (h : P := by (first | with_reducible exact True.intro | ((try dsimp only); and_intros <;> first | (go_simp; done) | (go_keep; done)))) : P := h

theorem rJ {P : Prop} (h : P := by kernel_rfl) : P := h

theorem aJ {P : Prop} (h : P := by and_intros <;> go_simp) : P := h

theorem bJ {B D : Nat} {a w W V : World} (X : Below B a w) (k : Below D W V) (h : Below B w W := by (repeat (first | with_reducible exact Below.refl _ _ | with_reducible refine Bs ?_ | with_reducible refine Ba ?_ | with_reducible refine Bd ?_ | with_reducible refine Bn ?_))) (hc : B ≤ D := by first | omega | (simp; done) | (simp; omega)) : RowKit.Hid (Below B a V) := Lib.hid ((X.trans h).trans (k.mono hc))

theorem hJ (a : World) {D : Nat} {W V : World} (k : Below D W V) (h : Below a.heap.size a W := by (repeat (first | with_reducible exact Below.refl _ _ | with_reducible refine Bs ?_ | with_reducible refine Ba ?_ | with_reducible refine Bd ?_ | with_reducible refine Bn ?_))) (hc : a.heap.size ≤ D := by first | omega | (simp; done) | (simp; omega)) : RowKit.Hid (Below a.heap.size a V) := Lib.hid (h.trans (k.mono hc))

end Go.Proofs.YtgobbecpnjelmaaGreat

namespace Go.Proofs.YtgobbecpnjelmaaGreat
open Go.RowKit

def fitV (z : Int) : Int := if Ok64 z then z else 0

def fitE (z : Int) : Int := if Ok64 z then 0 else 10

theorem fitV_yes {z : Int} (h : Ok64 z) : fitV z = z := if_pos h

theorem fitE_yes {z : Int} (h : Ok64 z) : fitE z = 0 := if_pos h

theorem fitV_no {z : Int} (h : ¬ Ok64 z) : fitV z = 0 := if_neg h

theorem fitE_no {z : Int} (h : ¬ Ok64 z) : fitE z = 10 := if_neg h

theorem u64_abs {a : Int} (ha : Ok64 a) (h : a < 0) : IntKind.u64.wrap (-IntKind.u64.wrap a) = (a.natAbs : Int) := by
 unfold Ok64 at ha
 simp only [IntKind.wrap_u64]
 omega

set_option maxHeartbeats 400000 in
theorem size_any (a : Int) (w : World) (ha : Ok64 a) :
  Calls Tryz.prog 150 #[.int .i64 a] w fun e w' => e = .returned (.int .u64 (a.natAbs : Int)) ∧ w = w' := by
 have h1 := ha.1
 have h2 := ha.2
 by_cases h : a < 0
 ·go_enter Tryz.func150, Tryz.ntmps150
  go_wp2
  go_ret
  exact ⟨ret_int (u64_abs ha h), rfl⟩
 ·go_enter Tryz.func150, Tryz.ntmps150
  go_wp2
  go_ret
  exact ⟨ret_int (by omega), rfl⟩

def clampI (v lo hi : Int) : Int := if v < lo then lo else if hi < v then hi else v

set_option maxHeartbeats 400000 in
theorem log_any (n : Int) (w : World) (hn : Ok64 n) :
  Calls Tryz.prog 142 #[.int .i64 n] w fun e w' => e = .returned (.int .i64 (Lib.bitLen (n.toNat - 1))) ∧ w = w' := by
 have h1 := hn.1
 have h2 := hn.2
 by_cases h : n ≤ 1
 ·go_enter Tryz.func142, Tryz.ntmps142
  go_wp2
  go_ret
  refine ⟨ret_int ?_, rfl⟩
  rw [show n.toNat - 1 = 0 by omega]; rfl
 ·have hl := fun W => Tryz.bits_Len64 (n - 1) W (by omega) (by omega)
  rw [show (n - 1).toNat = n.toNat - 1 by omega] at hl
  have HL := hH hl; clear hl
  go_enter Tryz.func142, Tryz.ntmps142
  go_wp2_with (go_at_call 90; refine (HL.out _).mono ?_; rintro e w' ⟨rfl, rfl⟩)
  go_ret
  exact ⟨rfl, rfl⟩
end Go.Proofs.YtgobbecpnjelmaaGreat

namespace Go.Proofs.YtgobbecpnjelmaaGreat
open Go.RowKit

theorem div_tell (a b : Int) (hb : b ≠ 0) :
  (0 ≤ a.tmod b → a / b = a.tdiv b ∧ a % b = a.tmod b) ∧ (a.tmod b < 0 → 0 < b → a / b = a.tdiv b - 1 ∧ a % b = a.tmod b + b) ∧ (a.tmod b < 0 → b < 0 → a / b = a.tdiv b + 1 ∧ a % b = a.tmod b - b) := by
 have h0 := Int.emod_nonneg a hb
 have h1 := Int.emod_lt a hb
 rw [Int.tdiv_eq_ediv, Int.tmod_eq_emod]
 split
 ·refine ⟨fun _ => ⟨by omega, by omega⟩, fun h => ?_, fun h => ?_⟩ <;> omega
 ·rcases Int.lt_or_gt_of_ne hb with h | h
  ·rw [Int.sign_eq_neg_one_of_neg h]
   exact ⟨fun _ => ⟨by omega, by omega⟩, fun _ _ => ⟨by omega, by omega⟩, fun _ _ => ⟨by omega, by omega⟩⟩
  ·rw [Int.sign_eq_one_of_pos h]
   exact ⟨fun _ => ⟨by omega, by omega⟩, fun _ _ => ⟨by omega, by omega⟩, fun _ _ => ⟨by omega, by omega⟩⟩

def least64 : Int := -9223372036854775808

theorem tdiv_ok {a b : Int} (ha : Ok64 a) (hb : b ≠ 0) (h : ¬ (a = least64 ∧ b = -1)) : Ok64 (a.tdiv b) := by
 unfold Ok64 least64 at *
 have h2 : (a.tdiv b).natAbs = a.natAbs / b.natAbs := Int.natAbs_tdiv a b
 have h3 : a.natAbs / b.natAbs ≤ a.natAbs := Nat.div_le_self _ _
 by_cases hb1 : b.natAbs = 1
 ·rcases (show b = 1 ∨ b = -1 by omega) with rfl | rfl
  ·simp only [Int.tdiv_one] at *; omega
  ·have e : a.tdiv (-1) = -a := by rw [Int.tdiv_neg, Int.tdiv_one]
   rw [e]; omega
 ·have h4 : a.natAbs / b.natAbs ≤ a.natAbs / 2 := Nat.div_le_div_left (by omega) (by omega)
  omega

theorem tmod_bd {a b : Int} (h0 : b ≠ 0) : a.tmod b < b.natAbs ∧ -(b.natAbs : Int) < a.tmod b := by
 have h1 := Int.emod_nonneg a h0
 have h2 := Int.emod_lt a h0
 rw [Int.tmod_eq_emod]
 split
 ·omega
 ·have h3 : a % b ≠ 0 := fun h => by
   have := Int.dvd_of_emod_eq_zero h
   simp_all
  omega

def ceilV (a b : Int) : Int := if b < 1 then 0 else if 0 < a % b then a / b + 1 else a / b

def ceilE (b : Int) : Int := if b < 1 then 1 else 0

theorem ceil_eq {a b : Int} (hb : 0 < b) : ceilV a b = if 0 < a.tmod b then a.tdiv b + 1 else a.tdiv b := by
 obtain ⟨t1, t2, _⟩ := div_tell a b (by omega)
 have h0 := Int.emod_nonneg a (show b ≠ 0 by omega)
 have h1 := Int.emod_lt a (show b ≠ 0 by omega)
 have h2 := tmod_bd (a := a) (show b ≠ 0 by omega)
 unfold ceilV
 rw [if_neg (by omega)]
 by_cases hs : 0 ≤ a.tmod b
 ·obtain ⟨e1, e2⟩ := t1 hs
  rw [e1, e2]
 ·obtain ⟨e1, e2⟩ := t2 (by omega) hb
  rw [if_pos (by omega), if_neg (by omega)]; omega

set_option maxHeartbeats 400000 in
theorem ceil_any (a b : Int) (w : World) (ha : Ok64 a) (hb : Ok64 b) :
  Calls Tryz.prog 113 #[.int .i64 a, .int .i64 b] w fun e w' => e = .returned (.tuple #[.int .i64 (ceilV a b), .int .i64 (ceilE b)]) ∧ w = w' := by
 by_cases h1 : b < 1
 ·go_enter Tryz.func113, Tryz.ntmps113
  go_wp2
  go_ret2
  exact ⟨ret2 (by rw [ceilV, if_pos h1]) (by rw [ceilE, if_pos h1]), rfl⟩
 ·have hp : 0 < b := by omega
  have e1 := ceil_eq (a := a) hp
  have e2 : ceilE b = 0 := if_neg h1
  have k1 := tdiv_ok ha (show b ≠ 0 by omega) (by omega)
  have k4 := tmod_bd (a := a) (show b ≠ 0 by omega)
  have k5 : 0 < a.tmod b → a.tdiv b < 9223372036854775807 := by
   intro h
   have h2 : (a.tdiv b).natAbs = a.natAbs / b.natAbs := Int.natAbs_tdiv a b
   have h4 : a.natAbs / b.natAbs ≤ a.natAbs / 2 := Nat.div_le_div_left (by omega) (by omega)
   unfold Ok64 at ha
   omega
  unfold Ok64 at ha hb k1
  have E1 := hH e1
  have E2 := hH e2
  have b0 : (b == 0) = false := by simp; omega
  clear e1 e2
  by_cases hs : 0 < a.tmod b
  ·have k6 := k5 hs
   go_enter Tryz.func113, Tryz.ntmps113
   go_wp2
   go_ret2
   refine ⟨ret2 ?_ E2.out.symm, rfl⟩
   rw [E1.out, if_pos hs]
  ·go_enter Tryz.func113, Tryz.ntmps113
   go_wp2
   go_ret2
   refine ⟨ret2 ?_ E2.out.symm, rfl⟩
   rw [E1.out, if_neg (by omega)]
end Go.Proofs.YtgobbecpnjelmaaGreat

namespace Go.Proofs.YtgobbecpnjelmaaGreat
open Go.RowKit

theorem eiU8 : EI Tryz.prog 5 (.int .u8 0) 1 1 := .of rJ rfl (by decide) (by decide)

set_option maxRecDepth 100000 in
set_option maxHeartbeats 1000000 in
theorem clone8_any (v : Value) (l : List Int) (w : World) (h : Ints .u8 w v l) (hl : l.length ≤ 1000000) :
  Calls Tryz.prog 88 #[v] w fun e w' => ∃ v', e = .returned v' ∧ w'.ownsRow w.heap.size 5 1 v' l.length (l.map (Value.int .u8)) ∧ Below w.heap.size w w' := by
 have q : ∀ (w : World) (a : Option Addr) (n c n' c' : Nat), (binOp .eql 45 (.slice a n c) (.slice none n' c')).run Tryz.prog w = .ok (.bool a.isNone) w := fun w a n c n' c' => Lib.run_eql_slice_nil w _ _ a n c n' c' Tryz.underlying45
 have HL := hH h
 obtain ⟨a, c, rfl, h1, h2, h3, h4⟩ := h
 rcases a with _ | ad
 ·have hl0 : l = [] := by
   cases l with
   | nil => rfl
   | cons x l => obtain ⟨b, o, e, _⟩ := h4 0 x rfl; cases e
  subst hl0
  clear h4 HL
  go_enter Tryz.func88, Tryz.ntmps88
  go_wp2
  go_ret
  exact ⟨_, rfl, ⟨rfl, .inl ⟨rfl, rfl⟩⟩, Below.refl _ _⟩
 ·clear h4
  go_enter Tryz.func88, Tryz.ntmps88
  have ho : (w.alloc (.cells #[] 5)).ownsRow w.heap.size 5 1 (.slice (some ⟨w.heap.size, 0, none⟩) 0 0) 0 [] := World.ownsRow_made w #[] 0 (Nat.le_refl _) (Nat.zero_le _) (by simp)
  have hb : Below w.heap.size w (w.alloc (.cells #[] 5)) := (Below.refl _ _).alloc (Nat.le_refl _) _
  have HO := hH ho; have HB := hH hb
  clear ho hb
  go_wp2_with (at_builtin; go_must (refine appInts rfl _ _ 45 rfl Tryz.underlying45 eiU8 w.heap.size (by rfl) HO.out (by rfl) (HL.out.below HB.out) (by omega) (by simp) ?_))
  intro v' w' hown b' _
  have HO' := hH hown
  have HB' := hH (HB.out.trans b')
  clear hown b'
  go_wp2
  go_ret
  exact ⟨_, rfl, by simpa using HO'.out, HB'.out⟩


set_option maxRecDepth 100000 in
theorem Ints.string {w : World} {a : Option Addr} {n c : Nat} {l : List Int} (h : Ints .u8 w (.slice a n c) l) :
  (convert 45 9 (.slice a n c)).run Tryz.prog w = .ok (.string (strOfNums l)) w := by
 obtain ⟨a', c', e, _, _, _, h4⟩ := h
 injection e with e1 e2 e3
 subst e1 e2 e3
 rcases Nat.eq_zero_or_pos l.length with h0 | h0
 ·obtain rfl := List.eq_nil_of_length_eq_zero h0
  rw [run_convert_bytes_string w _ _ _ _ _ _ Tryz.underlying45 Tryz.underlying5 Tryz.underlying9]
  cases a <;> simp [Conv.bytesToString, loadCells]
  all_goals rfl
 ·obtain ⟨x, hx⟩ := getElem?_ex h0
  obtain ⟨b, o, rfl, _, _⟩ := h4 0 x hx
  refine run_convert_bytes_arg w _ _ Tryz.underlying45 Tryz.underlying5 b o l.length _ l rfl (fun i hi => ?_) _ Tryz.underlying9
  obtain ⟨y, hy⟩ := getElem?_ex hi
  obtain ⟨b', o', e, _, hc⟩ := h4 i y hy
  cases e
  rw [hc]
  simp [List.getD, hy]

set_option maxRecDepth 100000 in
theorem same21_eq (va vb : Value) (l : List Int) (w : World) (ha : Ints .u8 w va l) (hb : Ints .u8 w vb l) :
  Calls Tryz.prog 22 #[va, vb] w fun e w' => e = .returned (.bool true) ∧ w = w' := by
 obtain ⟨a, c, rfl⟩ := ha.shape
 obtain ⟨b, d, rfl⟩ := hb.shape
 have h1 := ha.string
 have h2 := hb.string
 clear ha hb
 go_enter Tryz.func22, Tryz.ntmps22
 go_wp2
 go_ret
 simp

end Go.Proofs.YtgobbecpnjelmaaGreat

namespace Go.Proofs.YtgobbecpnjelmaaGreat

def upF : Nat → Nat → List Int
 | 0, _ => []
 | f + 1, n => if n = 0 then [] else upF f (n / 256) ++ [((n % 256 : Nat) : Int)]

/-- The digits of a number to the base 256, the greatest first. -/
def up (n : Nat) : List Int := upF 8 n

theorem upF_succ : ∀ (f n : Nat), n < 256 ^ f → upF (f + 1) n = upF f n := by
  intro f
  induction f with
  | zero => intro n h; have : n = 0 := by simpa using h
            subst this; simp [upF]
  | succ f ih =>
    intro n h
    by_cases h0 : n = 0
    · subst h0; simp [upF]
    · rw [upF, if_neg h0, ih (n / 256) (by rw [Nat.pow_succ] at h; exact Nat.div_lt_of_lt_mul (by rw [Nat.mul_comm]; exact h)), upF, if_neg h0]

theorem up_zero : up 0 = [] := rfl

theorem up_pos {n : Nat} (h : 0 < n) (hn : n < 18446744073709551616) : up n = up (n / 256) ++ [((n % 256 : Nat) : Int)] := by
 rw [up, upF, if_neg (by omega), up, upF_succ 7 (n / 256) (by show _ < 72057594037927936; omega)]

/-- The digits from the k-th on, the greatest first. -/
def down (n : Nat) : Nat → List Int
 | 0 => []
 | k + 1 => ((n / 256 ^ k % 256 : Nat) : Int) :: down n k

theorem down_snoc (n : Nat) : ∀ k, down n (k + 1) = down (n / 256) k ++ [((n % 256 : Nat) : Int)] := by
 intro k
 induction k with
 | zero => simp [down]
 | succ k ih =>
  rw [down, ih, down, List.cons_append, Nat.div_div_eq_div_mul, Nat.pow_succ, Nat.mul_comm]

theorem down_length (n : Nat) : ∀ k, (down n k).length = k := by
 intro k
 induction k with
 | zero => rfl
 | succ k ih => simp [down, ih]

theorem upF_down : ∀ (f n : Nat), upF f n = down n (upF f n).length := by
 intro f
 induction f with
 | zero => intro n; rfl
 | succ f ih =>
  intro n
  by_cases h0 : n = 0
  ·subst h0; simp [upF, down]
  ·rw [upF, if_neg h0, List.length_append, List.length_singleton, down_snoc, ← ih]

theorem up_down (n : Nat) : up n = down n (up n).length := upF_down 8 n

/-- The bytes of a number. -/
def putsU (n : Nat) : List Int := if n < 240 then [(n : Int)] else (239 + ((up n).length : Int)) :: up n

theorem upF_length : ∀ (f n : Nat), (upF f n).length ≤ f := by
 intro f
 induction f with
 | zero => intro n; simp [upF]
 | succ f ih =>
  intro n
  rw [upF]
  split
  ·simp
  ·have := ih (n / 256); simp; omega

theorem up_byte (n : Nat) : ∀ x ∈ up n, 0 ≤ x ∧ x ≤ 255 := by
 rw [up_down]
 generalize (up n).length = k
 induction k with
 | zero => intro x hx; simp [down] at hx
 | succ k ih =>
  intro x hx
  simp only [down, List.mem_cons] at hx
  rcases hx with rfl | hx
  ·have := Nat.mod_lt (n / 256 ^ k) (show 0 < 256 by omega)
   generalize n / 256 ^ k % 256 = z at *
   omega
  ·exact ih x hx

theorem up_bound : ∀ (f n : Nat), n < 256 ^ f → n < 18446744073709551616 → n < 256 ^ (up n).length ∧ (0 < n → 0 < (up n).length ∧ 256 ^ ((up n).length - 1) ≤ n) := by
  intro f
  induction f with
  | zero => intro n h _; have : n = 0 := by simpa using h
            subst this; simp [up_zero]
  | succ f ih =>
    intro n h hn
    rcases Nat.eq_zero_or_pos n with h0 | h0
    · subst h0; simp [up_zero]
    · have h1 : n / 256 < 256 ^ f := by rw [Nat.pow_succ] at h; exact Nat.div_lt_of_lt_mul (by rw [Nat.mul_comm]; exact h)
      obtain ⟨h2, h3⟩ := ih (n / 256) h1 (by omega)
      rw [up_pos h0 hn, List.length_append, List.length_singleton]
      rcases Nat.eq_zero_or_pos (n / 256) with h4 | h4
      · rw [h4, up_zero]
        simp
        omega
      · obtain ⟨h5, h6⟩ := h3 h4
        generalize (up (n / 256)).length = k at *
        obtain ⟨k, rfl⟩ : ∃ j, k = j + 1 := ⟨k - 1, by omega⟩
        rw [Nat.add_sub_cancel] at h6
        refine ⟨by rw [Nat.pow_succ]; omega, fun _ => ⟨by omega, ?_⟩⟩
        rw [Nat.add_sub_cancel, Nat.pow_succ]
        omega

theorem many_up {n : Nat} (h0 : 0 < n) (hn : n < 18446744073709551616) : (Lib.bitLen n + 7) / 8 = (up n).length := by
 obtain ⟨h1, h2⟩ := up_bound 8 n (by show _ < 18446744073709551616; exact hn) hn
 obtain ⟨h3, h4⟩ := h2 h0
 obtain ⟨g1, g2, g3⟩ := Lib.bitLenAux_bounds 64 n (by show _ < 18446744073709551616; exact hn) (by omega)
 have hb : Lib.bitLen n = Lib.bitLenAux 64 n := rfl
 rw [hb]
 generalize Lib.bitLenAux 64 n = B at *
 generalize (up n).length = k at *
 rw [show (256 : Nat) = 2 ^ 8 by rfl, ← Nat.pow_mul] at h1 h4
 have a1 : B - 1 < 8 * k := (Nat.pow_lt_pow_iff_right (a := 2) (by omega)).1 (Nat.lt_of_le_of_lt (by first | exact g1 | exact g2 | exact g3) h1)
 have a2 : 8 * (k - 1) < B := (Nat.pow_lt_pow_iff_right (a := 2) (by omega)).1 (Nat.lt_of_le_of_lt h4 (by first | exact g1 | exact g2 | exact g3))
 omega
end Go.Proofs.YtgobbecpnjelmaaGreat

namespace Go.Proofs.YtgobbecpnjelmaaGreat
open Go.RowKit

/-- A row of the call's own that holds these bytes. -/
def OwnB (w : World) (base : Nat) (v : Value) (l : List Int) : Prop := w.ownsRow base 5 1 v l.length (l.map (Value.int .u8))

theorem putsU_len {n : Nat} : (putsU n).length ≤ 9 := by
 unfold putsU
 split
 ·simp
 ·have := upF_length 8 n; simp [up]; omega

set_option maxRecDepth 100000 in
set_option maxHeartbeats 1000000 in
theorem putU_any (v : Value) (l : List Int) (n : Nat) (w : World) (h : Ints .u8 w v l) (hl : l.length ≤ 999990) (hn : (n : Int) ≤ 18446744073709551615) :
  Calls Tryz.prog 50 #[v, .int .u64 n] w fun e w' => ∃ v', e = .returned v' ∧ OwnB w' w.heap.size v' (l ++ putsU n) ∧ Below w.heap.size w w' := by
 have HC := hH (clone8_any v l w h (by omega))
 have hlen := h.shape
 clear h
 by_cases hs : (n : Int) < 240
 ·have hp : putsU n = [(n : Int)] := if_pos (by omega)
  have h8 : IntKind.u8.wrap (n : Int) = (n : Int) := by unfold IntKind.wrap; simp [IntKind.signed, IntKind.bits]; omega
  rw [hp]
  clear hp
  go_enter Tryz.func50, Tryz.ntmps50
  go_wp2_with fail
  refine HC.out.mono ?_
  rintro e w1 ⟨v1, rfl, ho, hb⟩
  have HO := hH ho; have HB := hH hb
  clear ho hb
  go_wp2_with (at_builtin; go_must (refine app1 rfl _ _ 45 rfl Tryz.underlying45 eiU8 w.heap.size (by rfl) HO.out (by rfl) rfl (by simp [Value.oneCell']) (by omega) HB.out.size ?_))
  intro v' w' hown hb' _
  have HO' := hH hown; have HB' := hH (HB.out.trans hb')
  clear hown hb'
  go_wp2
  go_ret
  exact ⟨_, rfl, by have := HO'.out; simpa [OwnB] using this, HB'.out⟩
 ·obtain ⟨k, hk⟩ : ∃ k, (up n).length = k := ⟨_, rfl⟩
  have hk8 : k ≤ 8 := hk ▸ upF_length 8 n
  have hmany := many_up (n := n) (by omega) (by omega)
  rw [hk] at hmany
  have hp : putsU n = (239 + (k : Int)) :: up n := by rw [putsU, if_neg (by omega), hk]
  have hud : up n = down n k := by rw [← hk]; exact up_down n
  rw [hp, hud]
  clear hp hud hk
  have hl64 := fun W => Tryz.bits_Len64 (n : Int) W (by omega) (by omega)
  simp only [Int.toNat_natCast] at hl64
  obtain ⟨B, hB⟩ : ∃ B, Lib.bitLen n = B := ⟨_, rfl⟩
  rw [hB] at hmany hl64
  clear hB
  have HL := hH hl64
  have HM := hH hmany
  have hB64 : B ≤ 64 := by omega
  clear hl64 hmany
  have hq : ((B : Int) + 7) / 8 = (k : Int) := by have := HM.out; omega
  have HQ := hH hq
  go_enter Tryz.func50, Tryz.ntmps50
  go_wp2_with fail
  refine HC.out.mono ?_
  rintro e w1 ⟨v1, rfl, ho, hb⟩
  have HO := hH ho; have HB := hH hb
  clear ho hb
  go_wp2_with (first | (go_at_call 90; refine (HL.out _).mono ?_; rintro e w' ⟨rfl, rfl⟩) | (at_builtin; go_must (refine app1 rfl _ _ 45 rfl Tryz.underlying45 eiU8 w.heap.size (by rfl) HO.out (by rfl) rfl (by simp [Value.oneCell']) (by omega) HB.out.size ?_)))
  intro v2 w2 ho2 hb2 _
  have h2 : OwnB w2 w.heap.size v2 (l ++ [239 + (k : Int)]) := by simpa [OwnB] using ho2
  have H2 := hH h2; have B2 := hH (HB.out.trans hb2)
  clear ho2 h2 hb2
  have hq := HQ.out
  go_wp2
  go_loopw [5, 7] (fun v i wr => ∃ (j : Nat) (done : List Int), j ≤ k ∧ i = .int .i64 ((j : Int) - 1) ∧ OwnB wr w.heap.size v done ∧ done ++ down n j = l ++ (239 + (k : Int)) :: down n k ∧ Below w.heap.size w wr) (fun _ i _ => (intOf i + 1).toNat)
  case atStart => exact ⟨k, _, Nat.le_refl _, rfl, H2.out, by simp, B2.out⟩
  case round =>
   obtain ⟨j, done, hj, rfl, ho, hd, hb⟩ := hrel
   have HD := hH hd; have HO3 := hH ho; have HB3 := hH hb
   clear hd ho hb
   rcases j with _ | m
   ·rw [show (((0 : Nat) : Int) - 1) = -1 by rfl]
    go_wp2
    go_ret
    exact ⟨_, rfl, by have := HD.out; rw [down, List.append_nil] at this; rw [← this]; exact HO3.out, HB3.out⟩
   ·rw [show (((m + 1 : Nat) : Int) - 1) = (m : Int) by omega]
    have hlen2 : done.length ≤ 1000000 := by
     have := congrArg List.length HD.out
     simp [down_length] at this
     omega
    have hbyte : (n : Int) / 2 ^ (8 * m) % 256 = ((n / 256 ^ m % 256 : Nat) : Int) := by
     rw [show (256 : Nat) ^ m = 2 ^ (8 * m) by rw [Nat.pow_mul]]; push_cast; rfl
    have HBY := hH hbyte
    clear hbyte
    go_wp2_with (at_builtin; go_must (refine app1 rfl _ _ 45 rfl Tryz.underlying45 eiU8 w.heap.size (by rfl) HO3.out (by rfl) rfl (by simp [Value.oneCell']) (by omega) HB3.out.size ?_))
    intro v4 w4 ho4 hb4 _
    have h4 : OwnB w4 w.heap.size v4 (done ++ [((n / 256 ^ m % 256 : Nat) : Int)]) := by rw [← HBY.out]; simpa [OwnB] using ho4
    have H4 := hH h4; have B4 := hH (HB3.out.trans hb4)
    clear ho4 h4 hb4
    go_wp2
    go_roundw
    case rel => exact ⟨m, _, by omega, by go_num, H4.out, by rw [← HD.out, down]; simp, B4.out⟩
    case measure => simp [intOf] <;> omega
end Go.Proofs.YtgobbecpnjelmaaGreat

namespace Go.Proofs.YtgobbecpnjelmaaGreat
open Go.RowKit

theorem own1 (w : World) (base : Nat) (x : Int) (hb : base ≤ w.heap.size) : (w.alloc (.cells #[.int .u8 x] 5)).ownsRow base 5 1 (.slice (some ⟨w.heap.size, 0, none⟩) 1 1) 1 [.int .u8 x] :=
 ⟨rfl, .inr ⟨w.heap.size, 1, _, rfl, hb, heap_alloc_new w _, Nat.le_refl _, by unfold maxLen; omega, rfl, rfl⟩⟩

set_option maxRecDepth 100000 in
set_option maxHeartbeats 1000000 in
theorem rU_any (n : Nat) (w : World) (hn : (n : Int) ≤ 18446744073709551615) :
  Calls Tryz.prog 55 #[.int .u64 n] w fun e w' => ∃ v', e = .returned v' ∧ OwnB w' w.heap.size v' (putsU n) ∧ Below w.heap.size w w' := by
 by_cases hs : (n : Int) < 240
 ·have hp : putsU n = [(n : Int)] := if_pos (by omega)
  have h8 : IntKind.u8.wrap (n : Int) = (n : Int) := by unfold IntKind.wrap; simp [IntKind.signed, IntKind.bits]; omega
  rw [hp]
  clear hp
  go_enter Tryz.func55, Tryz.ntmps55
  go_wp2
  go_ret
  exact ⟨_, rfl, own1 w _ _ (Nat.le_refl _), (Below.refl _ _).alloc (Nat.le_refl _) _⟩
 ·have hp : putsU n = (239 + ((up n).length : Int)) :: up n := if_neg (by omega)
  have hk8 : (up n).length ≤ 8 := upF_length 8 n
  have HP := hH hp
  clear hp
  go_enter Tryz.func55, Tryz.ntmps55
  go_wp2
  go_loopw [0, 3] (fun a v wr => ∃ (m : Nat) (D : List Int), a = .int .u64 m ∧ m ≤ n ∧ Ints .u8 wr v D ∧ up m ++ D = up n ∧ Below w.heap.size w wr) (fun a _ _ => (intOf a).toNat)
  case atStart => exact ⟨n, [], rfl, Nat.le_refl _, ⟨none, 0, rfl, by simp, by omega, by simp, fun i x h => by simp at h⟩, by simp, Below.refl _ _⟩
  case round =>
   obtain ⟨m, D, rfl, hm, hi, hd, hb⟩ := hrel
   have hD8 : D.length ≤ 8 := by
    have := congrArg List.length hd
    simp at this
    omega
   have HI := hH hi; have HD := hH hd; have HB := hH hb
   clear hi hd hb
   by_cases h0 : 0 < m
   ·have ho := own1 wr w.heap.size ((m : Int) % 256) HB.out.size
    have ha : Below w.heap.size w (wr.alloc (.cells #[.int .u8 ((m : Int) % 256)] 5)) := HB.out.alloc HB.out.size _
    have hi : Ints .u8 (wr.alloc (.cells #[.int .u8 ((m : Int) % 256)] 5)) _ D := HI.out.below ((Below.refl _ _).alloc (Nat.le_refl _) _)
    have HO := hH ho; have HA := hH ha; have HI' := hH hi
    clear ho ha hi
    go_wp2_with (at_builtin; go_must (refine appInts rfl _ _ 45 rfl Tryz.underlying45 eiU8 w.heap.size (by rfl) HO.out (by rfl) HI'.out (by omega) HA.out.size ?_))
    intro v2 w2 ho2 hb2 _
    have h2 : Ints .u8 w2 v2 (((m % 256 : Nat) : Int) :: D) := (Ints.own (base := w.heap.size) (e := 5) (n := 1 + D.length) (by simpa using ho2) (by simp; omega)).2
    have H2 := hH h2; have B2 := hH (HA.out.trans hb2)
    clear ho2 h2 hb2
    go_wp2
    go_roundw
    case rel => exact ⟨m / 256, _, by go_num, by omega, H2.out, by rw [← HD.out, up_pos h0 (by omega)]; simp, B2.out⟩
    case measure => simp [intOf] <;> omega
   ·obtain rfl : m = 0 := by omega
    have hd : D = up n := by have := HD.out; simpa [up_zero] using this
    obtain ⟨ad, c, rfl⟩ := HI.out.shape
    have ho := own1 wr w.heap.size (239 + (D.length : Int)) HB.out.size
    have ha : Below w.heap.size w (wr.alloc (.cells #[.int .u8 (239 + (D.length : Int))] 5)) := HB.out.alloc HB.out.size _
    have hi : Ints .u8 (wr.alloc (.cells #[.int .u8 (239 + (D.length : Int))] 5)) _ D := HI.out.below ((Below.refl _ _).alloc (Nat.le_refl _) _)
    have HO := hH ho; have HA := hH ha; have HI' := hH hi; have HDD := hH hd
    clear ho ha hi hd
    go_wp2_with (at_builtin; go_must (refine appInts rfl _ _ 45 rfl Tryz.underlying45 eiU8 w.heap.size (by rfl) HO.out (by rfl) HI'.out (by omega) HA.out.size ?_))
    intro v2 w2 ho2 hb2 _
    have h2 : OwnB w2 w.heap.size v2 (putsU n) := by
     rw [HP.out, ← HDD.out]
     unfold OwnB
     rw [List.length_cons, Nat.add_comm]
     simpa using ho2
    have H2 := hH h2; have B2 := hH (HA.out.trans hb2)
    clear ho2 h2 hb2
    go_wp2
    go_ret
    exact ⟨_, rfl, H2.out, B2.out⟩
end Go.Proofs.YtgobbecpnjelmaaGreat

namespace Go.Proofs.YtgobbecpnjelmaaGreat
open Go.RowKit

/-- A number with a sign as a number without. -/
def zig (i : Int) : Nat := if i < 0 then (2 * (-(i + 1)) + 1).toNat else (2 * i).toNat

def putsI (i : Int) : List Int := putsU (zig i)

theorem zig_lt {i : Int} (h : Ok64 i) : (zig i : Int) ≤ 18446744073709551615 := by unfold Ok64 at h; unfold zig; split <;> omega

set_option maxRecDepth 100000 in
set_option maxHeartbeats 1000000 in
theorem rI_any (i : Int) (w : World) (h : Ok64 i) :
  Calls Tryz.prog 95 #[.int .i64 i] w fun e w' => ∃ v', e = .returned v' ∧ OwnB w' w.heap.size v' (putsI i) ∧ Below w.heap.size w w' := by
 have HU := hH (rU_any (zig i) w (zig_lt h))
 unfold Ok64 at h
 by_cases h0 : i < 0
 ·have hz : (zig i : Int) = 2 * (-(i + 1)) + 1 := by unfold zig; rw [if_pos h0]; omega
  have HZ := hH hz; clear hz
  go_enter Tryz.func95, Tryz.ntmps95
  go_wp2_with fail
  rw [← HZ.out]
  refine HU.out.mono ?_
  rintro e w1 ⟨v1, rfl, ho, hb⟩
  have HO := hH ho; have HB := hH hb
  clear ho hb
  go_wp2
  go_ret
  exact ⟨_, rfl, HO.out, HB.out⟩
 ·have hz : (zig i : Int) = 2 * i := by unfold zig; rw [if_neg h0]; omega
  have HZ := hH hz; clear hz
  go_enter Tryz.func95, Tryz.ntmps95
  go_wp2_with fail
  rw [← HZ.out]
  refine HU.out.mono ?_
  rintro e w1 ⟨v1, rfl, ho, hb⟩
  have HO := hH ho; have HB := hH hb
  clear ho hb
  go_wp2
  go_ret
  exact ⟨_, rfl, HO.out, HB.out⟩

theorem xor_ones (a : Nat) (h : a < 18446744073709551616) : a ^^^ 18446744073709551615 = 18446744073709551615 - a := by
 have h1 : (BitVec.ofNat 64 a ^^^ BitVec.allOnes 64).toNat = (~~~ BitVec.ofNat 64 a).toNat := by rw [BitVec.xor_allOnes]
 rw [BitVec.toNat_xor, BitVec.toNat_not, BitVec.toNat_allOnes, BitVec.toNat_ofNat, Nat.mod_eq_of_lt (by simpa using h)] at h1
 simpa using h1

set_option maxRecDepth 100000 in
theorem xor_zig {i : Int} (h : -9223372036854775808 ≤ i ∧ i ≤ 9223372036854775807) :
  bits BinOp.xor IntKind.u64 (IntKind.u64.wrap (IntKind.u64.wrap i * 2)) (IntKind.u64.wrap (i / 9223372036854775808)) = (zig i : Int) := by
 by_cases h0 : i < 0
 ·have e1 : IntKind.u64.wrap (i / 9223372036854775808) = 18446744073709551615 := by
   rw [show i / 9223372036854775808 = -1 by omega]; rfl
  have e2 : IntKind.u64.wrap (IntKind.u64.wrap i * 2) = 18446744073709551616 + 2 * i := by
   unfold IntKind.wrap; simp [IntKind.signed, IntKind.bits]; omega
  have hz : (zig i : Int) = 2 * (-(i + 1)) + 1 := by unfold zig; rw [if_pos h0]; omega
  rw [e1, e2, hz]
  obtain ⟨a, ha⟩ := Int.eq_ofNat_of_zero_le (show 0 ≤ 18446744073709551616 + 2 * i by omega)
  have h1 := bits_xor_u64_nat a 18446744073709551615 (by omega) (by omega)
  rw [xor_ones a (by omega)] at h1
  rw [ha]
  refine h1.trans ?_
  omega
 ·have e1 : IntKind.u64.wrap (i / 9223372036854775808) = 0 := by
   rw [show i / 9223372036854775808 = 0 by omega]; rfl
  have e2 : IntKind.u64.wrap (IntKind.u64.wrap i * 2) = 2 * i := by
   unfold IntKind.wrap; simp [IntKind.signed, IntKind.bits]; omega
  have hz : (zig i : Int) = 2 * i := by unfold zig; rw [if_neg h0]; omega
  rw [e1, e2, hz]
  obtain ⟨a, ha⟩ := Int.eq_ofNat_of_zero_le (show 0 ≤ 2 * i by omega)
  have h1 := bits_xor_u64_nat a 0 (by omega) (by omega)
  rw [Nat.xor_zero] at h1
  rw [ha]
  exact h1

set_option maxRecDepth 100000 in
set_option maxHeartbeats 1000000 in
theorem putI_any (v : Value) (l : List Int) (i : Int) (w : World) (hv : Ints .u8 w v l) (hl : l.length ≤ 999990) (h : Ok64 i) :
  Calls Tryz.prog 91 #[v, .int .i64 i] w fun e w' => ∃ v', e = .returned v' ∧ OwnB w' w.heap.size v' (l ++ putsI i) ∧ Below w.heap.size w w' := by
 have HU := hH (putU_any v l (zig i) w hv hl (zig_lt h))
 unfold Ok64 at h
 go_enter Tryz.func91, Tryz.ntmps91
 go_wp2_with fail
 rw [xor_zig h]
 refine HU.out.mono ?_
 rintro e w1 ⟨v1, rfl, ho, hb⟩
 have HO := hH ho; have HB := hH hb
 clear ho hb
 go_wp2
 go_ret
 exact ⟨_, rfl, HO.out, HB.out⟩
end Go.Proofs.YtgobbecpnjelmaaGreat

namespace Go.Proofs.YtgobbecpnjelmaaGreat
open Go.RowKit

end Go.Proofs.YtgobbecpnjelmaaGreat

namespace Go.Proofs.YtgobbecpnjelmaaGreat
open Go.RowKit

def putsIs : List Int → List Int
 | [] => []
 | i :: l => putsI i ++ putsIs l

theorem putsIs_len : ∀ l : List Int, (putsIs l).length ≤ 9 * l.length := by
 intro l
 induction l with
 | nil => simp [putsIs]
 | cons i l ih => have := putsU_len (n := zig i); simp [putsIs, putsI]; omega

theorem OwnB.below {w w' : World} {base : Nat} {v : Value} {l : List Int} (h : OwnB w base v l) (hb : Below w.heap.size w w') : OwnB w' base v l := by
 have hlt := h.lt
 refine ⟨h.1, ?_⟩
 rcases h.2 with h1 | ⟨g, cap, cur, rfl, h2, h3, h4⟩
 ·exact .inl h1
 ·exact .inr ⟨g, cap, cur, rfl, h2, (hb.block g (hlt g rfl).2).trans h3, h4⟩

end Go.Proofs.YtgobbecpnjelmaaGreat

namespace Go.Proofs.YtgobbecpnjelmaaGreat

theorem snocInd {α : Type} {P : List α → Prop} (h0 : P []) (h1 : ∀ l x, P l → P (l ++ [x])) : ∀ l, P l := by
 have : ∀ l : List α, P l.reverse := by
  intro l
  induction l with
  | nil => exact h0
  | cons x l ih => rw [List.reverse_cons]; exact h1 _ _ ih
 intro l
 have h := this l.reverse
 rwa [List.reverse_reverse] at h

/-- Bytes as a number. -/
def numB (l : List Int) : Nat := l.foldl (fun n x => n * 256 + x.toNat) 0

def AllB (l : List Int) : Prop := ∀ x ∈ l, 0 ≤ x ∧ x ≤ 255

theorem numB_snoc (l : List Int) (x : Int) : numB (l ++ [x]) = numB l * 256 + x.toNat := by simp [numB]

theorem numB_lt (l : List Int) (h : AllB l) : numB l < 256 ^ l.length := by
 revert h
 refine snocInd (P := fun l => AllB l → numB l < 256 ^ l.length) ?_ ?_ l
 ·intro _; simp [numB]
 ·intro l x ih h
  have h1 := ih fun y hy => h y (by simp [hy])
  have h2 := h x (by simp)
  rw [numB_snoc, List.length_append, List.length_singleton, Nat.pow_succ]
  omega

theorem down_numB (l : List Int) (h : AllB l) : down (numB l) l.length = l := by
 revert h
 refine snocInd (P := fun l => AllB l → down (numB l) l.length = l) ?_ ?_ l
 ·intro _; rfl
 ·intro l x ih h
  have h1 := ih fun y hy => h y (by simp [hy])
  have h2 := h x (by simp)
  rw [numB_snoc, List.length_append, List.length_singleton, down_snoc]
  rw [show (numB l * 256 + x.toNat) / 256 = numB l by omega, h1]
  congr 2
  omega

theorem numB_down : ∀ (k n : Nat), n < 256 ^ k → numB (down n k) = n := by
  intro k
  induction k with
  | zero => intro n h; have : n = 0 := by simpa using h
            subst this; rfl
  | succ k ih =>
    intro n h
    rw [down_snoc, numB_snoc, ih (n / 256) (by rw [Nat.pow_succ] at h; exact Nat.div_lt_of_lt_mul (by rw [Nat.mul_comm]; exact h))]
    omega

theorem numB_up {n : Nat} (h : n < 18446744073709551616) : numB (up n) = n := by
 rw [up_down]
 exact numB_down _ n (up_bound 8 n (by show _ < 18446744073709551616; exact h) h).1

/-- Bytes are as few as may be just if the first one is not 0. -/
theorem up_numB {l : List Int} (h : AllB l) (hl : l.length ≤ 8) (h0 : 0 < l.length) : (up (numB l)).length = l.length ↔ l[0]? ≠ some 0 := by
 have hlt : numB l < 18446744073709551616 := Nat.lt_of_lt_of_le (numB_lt l h) (Nat.le_trans (Nat.pow_le_pow_right (by omega) hl) (by decide))
 obtain ⟨x, l', rfl⟩ : ∃ x l', l = x :: l' := by cases l with
  | nil => simp at h0
  | cons x l' => exact ⟨x, l', rfl⟩
 have hx := h x (by simp)
 have hb : numB (x :: l') = x.toNat * 256 ^ l'.length + numB l' := by
  clear hlt hx h hl h0
  refine snocInd (P := fun l' => numB (x :: l') = x.toNat * 256 ^ l'.length + numB l') ?_ ?_ l'
  ·simp [numB]
  ·intro l y ih
   rw [← List.cons_append, numB_snoc, ih, numB_snoc, List.length_append, List.length_singleton, Nat.pow_succ, Nat.add_mul, Nat.mul_assoc, Nat.add_assoc]
 have hl' := numB_lt l' fun y hy => h y (by simp [hy])
 obtain ⟨g1, g2⟩ := up_bound 8 (numB (x :: l')) (by show _ < 18446744073709551616; exact hlt) hlt
 constructor
 ·intro he hc
  have hx0 : x = 0 := by simpa using hc
  rw [hx0] at hb he g2
  rcases Nat.eq_zero_or_pos (numB (0 :: l')) with hz | hz
  ·rw [hz, up_zero] at he; simp at he
  ·obtain ⟨_, g3⟩ := g2 hz
   rw [he, List.length_cons, Nat.add_sub_cancel] at g3
   simp at hb
   omega
 ·intro hc
  have hx0 : 0 < x.toNat := by
   have : x ≠ 0 := fun e => hc (by simp [e])
   omega
  have hge : 256 ^ l'.length ≤ numB (x :: l') := by
   rw [hb]; exact Nat.le_trans (Nat.le_mul_of_pos_left _ hx0) (Nat.le_add_right _ _)
  have hup := numB_lt (x :: l') h
  obtain ⟨g3, g4⟩ := g2 (Nat.lt_of_lt_of_le (Nat.pow_pos (by omega)) hge)
  generalize (up (numB (x :: l'))).length = k at *
  obtain ⟨k, rfl⟩ : ∃ j, k = j + 1 := ⟨k - 1, by omega⟩
  rw [Nat.add_sub_cancel] at g4
  have a1 : l'.length < k + 1 := (Nat.pow_lt_pow_iff_right (a := 256) (by omega)).1 (Nat.lt_of_le_of_lt hge g1)
  have a2 : k < (x :: l').length := (Nat.pow_lt_pow_iff_right (a := 256) (by omega)).1 (Nat.lt_of_le_of_lt g4 hup)
  simp at a2 ⊢
  omega

/-- A number is read: it, the place behind it, how it failed. -/
def rdU (l : List Int) (a : Nat) : Nat × Nat × Int :=
 match l[a]? with
 | none => (0, a, 210)
 | some f => if f < 240 then (f.toNat, a + 1, 0) else if 247 < f then (0, a, 211)
  else if l.length < a + 1 + (f - 239).toNat then (0, a, 210)
  else if (putsU (numB ((l.drop (a + 1)).take (f - 239).toNat))).length = (f - 239).toNat + 1 then (numB ((l.drop (a + 1)).take (f - 239).toNat), a + 1 + (f - 239).toNat, 0) else (0, a, 211)

theorem rdU_bad (l : List Int) (a : Nat) (h : (rdU l a).2.2 ≠ 0) : (rdU l a).1 = 0 ∧ (rdU l a).2.1 = a := by
 unfold rdU at h ⊢
 split
 ·exact ⟨rfl, rfl⟩
 ·rename_i f hf
  rw [hf] at h
  simp only at h
  repeat' split at h
  all_goals first | (exfalso; exact h rfl) | (repeat' split) <;> first | exact ⟨rfl, rfl⟩ | omega

/-- A number that was put is read. -/
theorem rdU_puts (pre rest : List Int) (n : Nat) (h : n < 18446744073709551616) : rdU (pre ++ (putsU n ++ rest)) pre.length = (n, pre.length + (putsU n).length, 0) := by
 by_cases hs : n < 240
 ·have hp : putsU n = [(n : Int)] := if_pos hs
  rw [hp]
  unfold rdU
  rw [List.getElem?_append_right (Nat.le_refl _), Nat.sub_self]
  simp only [List.cons_append, List.nil_append, List.getElem?_cons_zero]
  rw [if_pos (by omega)]
  simp
 ·have hp : putsU n = (239 + ((up n).length : Int)) :: up n := if_neg hs
  obtain ⟨g1, g2⟩ := up_bound 8 n (by show _ < 18446744073709551616; exact h) h
  have g3 := (g2 (by omega)).1
  have g4 := upF_length 8 n
  have g5 : (up n).length ≤ 8 := g4
  have e0 : (pre ++ (putsU n ++ rest))[pre.length]? = some (239 + ((up n).length : Int)) := by
   rw [List.getElem?_append_right (Nat.le_refl _), Nat.sub_self, hp]; rfl
  have e1 : (239 + ((up n).length : Int) - 239).toNat = (up n).length := by omega
  have e2 : ((pre ++ (putsU n ++ rest)).drop (pre.length + 1)).take (up n).length = up n := by
   rw [← List.drop_drop, List.drop_left, hp]
   simp
  have e3 : (putsU n).length = (up n).length + 1 := by rw [hp]; rfl
  unfold rdU
  rw [e0]
  simp only
  rw [if_neg (by omega), if_neg (by omega), e1, if_neg (by simp [e3]; omega), e2, numB_up h, if_pos e3, e3]
  simp; omega

/-- What is read was put so. -/
theorem rdU_ok (l : List Int) (hb : AllB l) (a : Nat) (h : (rdU l a).2.2 = 0) :
  a < (rdU l a).2.1 ∧ (rdU l a).2.1 ≤ l.length ∧ (rdU l a).1 < 18446744073709551616 ∧ putsU (rdU l a).1 = (l.drop a).take ((rdU l a).2.1 - a) := by
 cases hf : l[a]? with
 | none => unfold rdU at h; rw [hf] at h; simp at h
 | some f =>
  have hfb := hb f (List.mem_of_getElem? hf)
  have hal : a < l.length := (List.getElem?_eq_some_iff.1 hf).1
  have hd : l.drop a = f :: l.drop (a + 1) := by
   rw [List.drop_eq_getElem_cons hal]
   congr 1
   rw [List.getElem?_eq_getElem hal] at hf
   exact Option.some.inj hf
  unfold rdU at h ⊢
  rw [hf] at h ⊢
  simp only at h ⊢
  by_cases h1 : f < 240
  ·simp only [if_pos h1]
   refine ⟨by omega, by omega, by omega, ?_⟩
   rw [putsU, if_pos (by omega), hd, show a + 1 - a = 1 by omega]
   simp; omega
  ·rw [if_neg h1] at h ⊢
   by_cases h2 : 247 < f
   ·rw [if_pos h2] at h; simp at h
   ·rw [if_neg h2] at h ⊢
    by_cases h3 : l.length < a + 1 + (f - 239).toNat
    ·rw [if_pos h3] at h; simp at h
    ·rw [if_neg h3] at h ⊢
     by_cases h4 : (putsU (numB ((l.drop (a + 1)).take (f - 239).toNat))).length = (f - 239).toNat + 1
     ·simp only [if_pos h4]
      have hdl : ((l.drop (a + 1)).take (f - 239).toNat).length = (f - 239).toNat := by simp; omega
      have hdb : AllB ((l.drop (a + 1)).take (f - 239).toNat) := fun x hx => hb x (List.mem_of_mem_drop (List.mem_of_mem_take hx))
      have hlt := numB_lt _ hdb
      have hdn := down_numB _ hdb
      rw [hdl] at hlt hdn
      refine ⟨by omega, by omega, Nat.lt_of_lt_of_le hlt (Nat.le_trans (Nat.pow_le_pow_right (by omega) (show (f - 239).toNat ≤ 8 by omega)) (by decide)), ?_⟩
      have hbig : ¬ numB ((l.drop (a + 1)).take (f - 239).toNat) < 240 := by
       intro hc
       rw [putsU, if_pos hc] at h4
       simp at h4
       omega
      rw [putsU, if_neg hbig] at h4 ⊢
      have h5 : (up (numB ((l.drop (a + 1)).take (f - 239).toNat))).length = (f - 239).toNat := by simpa using h4
      rw [up_down, h5, hdn, hd, show a + 1 + (f - 239).toNat - a = (f - 239).toNat + 1 by omega, List.take_succ_cons]
      congr 1
      rw [hdl]
      omega
     ·rw [if_neg h4] at h; simp at h

/-- The program's own test: as few bytes as may be. -/
theorem rdU_test {l : List Int} (hb : AllB l) (h : 0 < l.length) (hl : l.length ≤ 8) : (putsU (numB l)).length = l.length + 1 ↔ ¬ (l[0]? = some 0 ∨ numB l < 240) := by
 by_cases hc : numB l < 240
 ·rw [putsU, if_pos hc]
  constructor
  ·intro h1; have h2 : 1 = l.length + 1 := h1; omega
  ·intro h1; exact absurd (.inr hc) h1
 ·rw [putsU, if_neg hc, List.length_cons]
  have := up_numB hb hl h
  simp only [Nat.add_right_cancel_iff, hc, or_false]
  exact this

def unzig (n : Nat) : Int := if n % 2 = 1 then -((n / 2 : Nat) : Int) - 1 else ((n / 2 : Nat) : Int)

theorem unzig_zig (i : Int) : unzig (zig i) = i := by
 unfold zig unzig
 by_cases h : i < 0
 ·rw [if_pos h, if_pos (by omega)]; omega
 ·rw [if_neg h, if_neg (by omega)]; omega

theorem zig_unzig (n : Nat) : zig (unzig n) = n := by
 unfold zig unzig
 by_cases h : n % 2 = 1
 ·rw [if_pos h, if_pos (by omega)]; omega
 ·rw [if_neg h, if_neg (by omega)]; omega

/-- A number up to another one is read. -/
def rdN (l : List Int) (a : Nat) (most : Int) : Nat × Nat × Int :=
 if (rdU l a).2.2 ≠ 0 then (0, a, (rdU l a).2.2) else if most < 0 ∨ most < ((rdU l a).1 : Int) then (0, a, 211) else rdU l a
/-- A number with a sign is read. -/
def rdI (l : List Int) (a : Nat) : Int × Nat × Int := (unzig (rdU l a).1, (rdU l a).2.1, (rdU l a).2.2)
end Go.Proofs.YtgobbecpnjelmaaGreat

namespace Go.Proofs.YtgobbecpnjelmaaGreat
open Go.RowKit

/-- Block R is a reader of the bytes l (slice v), at place a, with error e. -/
def Rd (w : World) (R : Nat) (v : Value) (l : List Int) (a : Nat) (e : Int) : Prop :=
 w.heap[R]? = some (.cells #[v, .int .i64 a, .int .i64 e] 127 (0, 0)) ∧ Ints .u8 w v l

theorem Rd.cells {w : World} {R : Nat} {v : Value} {l : List Int} {a : Nat} {e : Int} (h : Rd w R v l a e) :
  w.cell? ⟨R, 0, none⟩ = some v ∧ w.cell? ⟨R, 1, none⟩ = some (.int .i64 a) ∧ w.cell? ⟨R, 2, none⟩ = some (.int .i64 e) ∧ w.frozen? ⟨R, 1, none⟩ = false ∧ w.frozen? ⟨R, 2, none⟩ = false := by
 have h1 := h.1
 refine ⟨?_, ?_, ?_, ?_, ?_⟩ <;> simp [World.cell?, World.frozen?, h1]

theorem Rd.lt {w : World} {R : Nat} {v : Value} {l : List Int} {a : Nat} {e : Int} (h : Rd w R v l a e) : R < w.heap.size := by
 rcases Nat.lt_or_ge R w.heap.size with hlt | hge
 ·exact hlt
 ·have h1 := h.1
  rw [Array.getElem?_eq_none hge] at h1; cases h1

/-- Bytes never lie in a reader's block. -/
theorem Ints.far_rd {w : World} {R b o : Nat} {v : Value} {l : List Int} {a : Nat} {e x : Int} (h : Rd w R v l a e) (hc : w.cell? ⟨b, o, none⟩ = some (.int .u8 x)) : b ≠ R := by
 rintro rfl
 have h1 := h.1
 obtain ⟨ad, c, rfl⟩ := h.2.shape
 simp [World.cell?, h1] at hc
 rcases o with _ | _ | _ | o <;> simp at hc

theorem Ints.only_rd {w w' : World} {R : Nat} {v v0 : Value} {l l0 : List Int} {a : Nat} {e : Int} (h : Rd w R v l a e) (hi : Ints .u8 w v0 l0) (hg : w.grownBy w' (some R)) : Ints .u8 w' v0 l0 := by
 obtain ⟨ad, c, rfl, h1, h2, h3, h4⟩ := hi
 refine ⟨ad, c, rfl, h1, h2, h3, fun i x hx => ?_⟩
 obtain ⟨b, o, rfl, hlt, hc⟩ := h4 i x hx
 have hne := Ints.far_rd h hc
 refine ⟨b, o, rfl, Nat.lt_of_lt_of_le hlt hg.size, ?_⟩
 exact (World.cell?_of_block (w := w) (a := ⟨b, o + i, none⟩) (hg.block b hlt (by simpa using hne))).trans hc

theorem Rd.below {w w' : World} {R : Nat} {v : Value} {l : List Int} {a : Nat} {e : Int} (h : Rd w R v l a e) (hb : Below w.heap.size w w') : Rd w' R v l a e :=
 ⟨(hb.block R h.lt).trans h.1, h.2.below hb⟩

theorem Rd.drewN {w : World} {R : Nat} {v : Value} {l : List Int} {a : Nat} {e : Int} (h : Rd w R v l a e) (n : Nat) : Rd (w.drewN n) R v l a e := h.below (below_drewN (Below.refl _ _) n)

theorem Rd.other {w w' : World} {R R' : Nat} {v v' : Value} {l l' : List Int} {a a' : Nat} {e e' : Int} (h : Rd w R v l a e) (h' : Rd w R' v' l' a' e') (hne : R ≠ R') (hg : w.grownBy w' (some R')) : Rd w' R v l a e :=
 ⟨(hg.block R h.lt (by simpa using hne)).trans h.1, Ints.only_rd h' h.2 hg⟩

theorem only_set (w : World) (R i : Nat) (u : Value) : w.grownBy (w.setCell ⟨R, i, none⟩ u) (some R) :=
 ⟨rfl, rfl, rfl, by simp [World.setCell], fun k _ hne => Below.heap_setCell w ⟨R, i, none⟩ u k (fun e => hne (by rw [e]))⟩

theorem only_drewN {a w : World} {row : Option Nat} (h : a.grownBy w row) (n : Nat) : a.grownBy (w.drewN n) row := ⟨h.os, h.tape, h.output, h.size, h.block⟩

theorem only_trans {a b c : World} {R : Nat} (h : a.grownBy b (some R)) (k : b.grownBy c (some R)) : a.grownBy c (some R) :=
 ⟨k.os.trans h.os, k.tape.trans h.tape, k.output.trans h.output, Nat.le_trans h.size k.size, fun i hi hne => (k.block i (Nat.lt_of_lt_of_le hi h.size) hne).trans (h.block i hi hne)⟩

theorem only_below {a w : World} {R : Nat} (h : Below a.heap.size a w) : a.grownBy w (some R) := ⟨h.os, h.tape, h.output, h.size, fun i hi _ => h.block i hi⟩

theorem only_refl (w : World) (R : Nat) : w.grownBy w (some R) := ⟨rfl, rfl, rfl, Nat.le_refl _, fun _ _ _ => rfl⟩
/-- What touches only a block of the call's own leaves all below as it was. -/
theorem below_only {B R : Nat} {w0 a w : World} (h0 : Below B w0 a) (h : a.grownBy w (some R)) (hB : B ≤ w0.heap.size) (hR : B ≤ R) : Below B w0 w :=
 ⟨h.os.trans h0.os, h.tape.trans h0.tape, h.output.trans h0.output, Nat.le_trans h0.size h.size, fun i hi => (h.block i (Nat.lt_of_lt_of_le hi (Nat.le_trans hB h0.size)) (by simp; omega)).trans (h0.block i hi)⟩

theorem Rd.set1 {w : World} {R : Nat} {v : Value} {l : List Int} {a : Nat} {e : Int} (h : Rd w R v l a e) (a' : Nat) : Rd (w.setCell ⟨R, 1, none⟩ (.int .i64 a')) R v l a' e := by
 refine ⟨?_, Ints.only_rd h h.2 (only_set w R 1 _)⟩
 have h1 := h.1
 simp [World.setCell, Array.getElem?_modify, h1]

theorem Rd.set2 {w : World} {R : Nat} {v : Value} {l : List Int} {a : Nat} {e : Int} (h : Rd w R v l a e) (e' : Int) : Rd (w.setCell ⟨R, 2, none⟩ (.int .i64 e')) R v l a e' := by
 refine ⟨?_, Ints.only_rd h h.2 (only_set w R 2 _)⟩
 have h1 := h.1
 simp [World.setCell, Array.getElem?_modify, h1]

theorem Rd.set1' {w : World} {R : Nat} {v : Value} {l : List Int} {a : Nat} {e : Int} (h : Rd w R v l a e) (a' : Nat) (z : Int) (hz : z = (a' : Int)) : Rd (w.setCell ⟨R, 1, none⟩ (.int .i64 z)) R v l a' e := by subst hz; exact h.set1 a'

/-- What a method does to its reader's block. -/
def RdTo (w : World) (R : Nat) (v : Value) (l : List Int) (w' : World) (a : Nat) (e : Int) : Prop := Rd w' R v l a e ∧ w.grownBy w' (some R)

theorem dead_no {w : World} {R : Nat} {v : Value} {l : List Int} {a : Nat} (h : Rd w R v l a 0) : Calls Tryz.prog 100 #[.pointer (some ⟨R, 0, none⟩)] w fun e w' => e = .returned (.bool false) ∧ w = w' := by
 obtain ⟨c0, c1, c2, f1, f2⟩ := h.cells
 clear h
 go_enter Tryz.func100, Tryz.ntmps100
 go_wp2
 go_ret
 exact ⟨rfl, rfl⟩

theorem dead_yes {w : World} {R : Nat} {v : Value} {l : List Int} {a : Nat} {e0 : Int} (h : Rd w R v l a e0) (he : e0 ≠ 0) : Calls Tryz.prog 100 #[.pointer (some ⟨R, 0, none⟩)] w fun e w' => e = .returned (.bool true) ∧ w = w' := by
 obtain ⟨c0, c1, c2, f1, f2⟩ := h.cells
 have hne : (e0 != 0) = true := by simpa using he
 clear h he
 go_enter Tryz.func100, Tryz.ntmps100
 go_wp2
 go_ret
 exact ⟨rfl, rfl⟩

theorem back_rd {w : World} {R : Nat} {v : Value} {l : List Int} {a : Nat} {e0 : Int} (u : FrameMode) (a0 : Nat) (h : Rd w R v l a e0) :
  CallsD Tryz.prog 101 #[.pointer (some ⟨R, 0, none⟩), .int .i64 a0] u w fun e u' w' => u' = u ∧ (e = .returned (.tuple #[]) ∧ RdTo w R v l w' (if e0 = 0 then a else a0) e0) := by
 obtain ⟨c0, c1, c2, f1, f2⟩ := h.cells
 have H := hH h
 clear h
 by_cases he : e0 = 0
 ·subst he
  have hf : Hid ((if (0 : Int) = 0 then a else a0) = a) := by simp [Hid]
  rw [hf.out]
  clear hf
  go_enter_d Tryz.func101, Tryz.ntmps101
  go_wp2
  go_end0
  exact ⟨rfl, H.out, only_refl _ _⟩
 ·rw [if_neg he]
  have hne : (e0 != 0) = true := by simpa using he
  go_enter_d Tryz.func101, Tryz.ntmps101
  go_wp2
  go_end0
  exact ⟨rfl, H.out.set1 a0, only_set _ _ _ _⟩

set_option maxHeartbeats 800000 in
theorem take_short {w : World} {R : Nat} {v : Value} {l : List Int} {a : Nat} (h : Rd w R v l a 0) (ha : a ≤ l.length) (hl : l.length ≤ 100000) (n : Int) (hn : (l.length : Int) < a + n) :
  Calls Tryz.prog 133 #[.pointer (some ⟨R, 0, none⟩), .int .i64 n] w fun e w' => e = .returned (.slice none 0 0) ∧ RdTo w R v l w' a 210 := by
 have H := hH h
 obtain ⟨c0, c1, c2, f1, f2⟩ := h.cells
 obtain ⟨ad, c, rfl⟩ := h.2.shape
 clear h
 have hlt : (l.length : Int) - a < n := by omega
 go_enter Tryz.func133, Tryz.ntmps133
 go_wp2
 go_quiet (fail)
 go_wp2
 go_ret
 exact ⟨rfl, (H.out.drewN _).set2 210, only_trans (only_drewN (only_refl _ _) _) (only_set _ _ _ _)⟩

set_option maxHeartbeats 800000 in
theorem take_yes {w : World} {R : Nat} {v : Value} {l : List Int} {a n : Nat} (h : Rd w R v l a 0) (hl : l.length ≤ 100000) (hn : a + n ≤ l.length) :
  Calls Tryz.prog 133 #[.pointer (some ⟨R, 0, none⟩), .int .i64 n] w fun e w' => ∃ v', e = .returned v' ∧ Ints .u8 w' v' ((l.drop a).take n) ∧ RdTo w R v l w' (a + n) 0 := by
 have H := hH h
 obtain ⟨c0, c1, c2, f1, f2⟩ := h.cells
 obtain ⟨ad, c, rfl, g1, g2, g3, _⟩ := h.2
 clear h
 have hlt : ¬ (l.length : Int) - a < n := by omega
 have hd : c = a ∨ ¬ c = a := by omega
 rcases hd with hca | hca
 ·subst hca
  go_enter Tryz.func133, Tryz.ntmps133
  go_wp2
  go_quiet (fail)
  go_wp2
  go_quiet (fail)
  go_wp2
  go_ret
  have hn0 : n = 0 := by omega
  refine ⟨_, rfl, by (subst hn0; simp; exact ints_nil _ _ _ _ (by omega)), (((H.out.drewN _).set1' (c + n) ((c : Int) + n) (by omega)).drewN _), only_drewN (only_trans (only_drewN (only_refl _ _) _) (only_set _ _ _ _)) _⟩
 ·go_enter Tryz.func133, Tryz.ntmps133
  go_wp2
  go_quiet (fail)
  go_wp2
  go_quiet (fail)
  go_wp2
  go_ret
  have hI := fun d => (((H.out.drewN d).set1' (a + n)) ((a : Int) + n) (by omega)).2
  refine ⟨_, rfl, (((hI _).cutAt (i := a) (m := n) (by omega) (c - a) (by omega) (by omega) (fun hm b o e => ?_)).len (by omega)).drewN _, (((H.out.drewN _).set1' (a + n) ((a : Int) + n) (by omega)).drewN _), only_drewN (only_trans (only_drewN (only_refl _ _) _) (only_set _ _ _ _)) _⟩
  first | (subst e; simp [Addr.add]) | (cases e; rfl)
end Go.Proofs.YtgobbecpnjelmaaGreat

namespace Go.Proofs.YtgobbecpnjelmaaGreat
open Go.RowKit

theorem one_of {l : List Int} {a : Nat} {f : Int} (h : l[a]? = some f) : (l.drop a).take 1 = [f] := by
 have hal : a < l.length := (List.getElem?_eq_some_iff.1 h).1
 rw [List.drop_eq_getElem_cons hal]
 rw [List.getElem?_eq_getElem hal] at h
 rw [List.take_succ_cons, List.take_zero, Option.some.inj h]

theorem Ints.one {k : IntKind} {w : World} {v : Value} {f : Int} (h : Ints k w v [f]) : ∃ b o c, v = .slice (some ⟨b, o, none⟩) 1 c ∧ w.cell? ⟨b, o, none⟩ = some (.int k f) ∧ b < w.heap.size := by
 obtain ⟨a, c, rfl, _, _, _, h4⟩ := h
 obtain ⟨b, o, rfl, hlt, hc⟩ := h4 0 f rfl
 exact ⟨b, o, c, rfl, hc, hlt⟩

theorem or_byte {n : Nat} {x : Int} (hn : n < 72057594037927936) (hx : 0 ≤ x ∧ x ≤ 255) : Value.int .u64 (bits BinOp.or IntKind.u64 ((n : Int) * 256) x) = Value.int .u64 ((n * 256 + x.toNat : Nat) : Int) := by
 obtain ⟨y, rfl⟩ := Int.eq_ofNat_of_zero_le hx.1
 have h1 := bits_or_u64_nat (n * 256) y (by omega) (by omega)
 rw [show ((n : Int) * 256) = ((n * 256 : Nat) : Int) by omega, h1]
 have h2 := Nat.two_pow_add_eq_or_of_lt (i := 8) (b := y) (by omega) n
 rw [show n * 256 = 2 ^ 8 * n by omega, ← h2, Int.toNat_natCast]

/-- What a method that reads a number does. -/
def RdU (w : World) (R : Nat) (v : Value) (l : List Int) (r : Nat × Nat × Int) (e : Ending) (w' : World) : Prop := e = .returned (.int .u64 (r.1 : Int)) ∧ RdTo w R v l w' r.2.1 r.2.2

theorem RdTo.trans {w w1 w2 : World} {R : Nat} {v : Value} {l : List Int} {a a' : Nat} {e e' : Int} (h : RdTo w R v l w1 a e) (k : RdTo w1 R v l w2 a' e') : RdTo w R v l w2 a' e' := ⟨k.1, only_trans h.2 k.2⟩

set_option maxRecDepth 100000 in
set_option maxHeartbeats 2000000 in
theorem readU_any {w : World} {R : Nat} {v : Value} {l : List Int} {a : Nat} (h : Rd w R v l a 0) (hb : AllB l) (ha : a ≤ l.length) (hl : l.length ≤ 100000) :
  Calls Tryz.prog 102 #[.pointer (some ⟨R, 0, none⟩)] w fun e w' => RdU w R v l (rdU l a) e w' := by
 have H := hH h
 obtain ⟨c0, c1, c2, f1, f2⟩ := h.cells
 clear h
 cases hf : l[a]? with
 | none =>
  have hr : rdU l a = (0, a, 210) := by unfold rdU; rw [hf]
  rw [hr]
  have hal : l.length ≤ a := by
   rcases Nat.lt_or_ge a l.length with hlt | hge
   ·rw [List.getElem?_eq_getElem hlt] at hf; cases hf
   ·exact hge
  clear hr hf
  go_enter_defers Tryz.func102, Tryz.ntmps102
  go_wp2_with fail
  refine (dead_no H.out).mono ?_
  rintro e w1 ⟨rfl, rfl⟩
  go_wp2_with fail
  refine (take_short H.out ha hl 1 (by omega)).mono ?_
  rintro e w1 ⟨rfl, h1⟩
  have H1 := hH h1
  clear h1
  go_wp2_with fail
  refine (dead_yes H1.out.1 (by omega)).mono ?_
  rintro e w2 ⟨rfl, rfl⟩
  go_wp2
  refine leaves_cons (f := 101) (args := #[.pointer (some ⟨R, 0, none⟩), .int .i64 a]) (by simp) (by simp [go_sem]) ?_
  refine (back_rd .returning a H1.out.1).mono ?_
  rintro e u' w'' ⟨rfl, rfl, h2⟩
  exact ⟨_, results_tmp rfl _ _ _, rfl, H1.out.trans h2⟩
 | some f =>
  have hal : a < l.length := (List.getElem?_eq_some_iff.1 hf).1
  have hfb := hb f (List.mem_of_getElem? hf)
  have h1f := one_of hf
  have HT := hH (take_yes (n := 1) H.out hl (by omega))
  rw [h1f] at HT
  clear h1f
  by_cases hs : f < 240
  ·have hr : rdU l a = (f.toNat, a + 1, 0) := by unfold rdU; rw [hf]; simp only [if_pos hs]
   rw [hr]
   clear hr hf
   obtain ⟨k, rfl⟩ := Int.eq_ofNat_of_zero_le hfb.1
   rw [Int.toNat_natCast]
   go_enter_defers Tryz.func102, Tryz.ntmps102
   go_wp2_with fail
   refine (dead_no H.out).mono ?_
   rintro e w1 ⟨rfl, rfl⟩
   go_wp2_with fail
   refine HT.out.mono ?_
   rintro e w1 ⟨v1, rfl, hi, h1⟩
   obtain ⟨b, o, c, rfl, hc, hlt⟩ := hi.one
   have H1 := hH h1
   clear h1 hi
   go_wp2_with fail
   refine (dead_no H1.out.1).mono ?_
   rintro e w2 ⟨rfl, rfl⟩
   go_wp2
   refine leaves_cons (f := 101) (args := #[.pointer (some ⟨R, 0, none⟩), .int .i64 a]) (by simp) (by simp [go_sem]) ?_
   refine (back_rd .returning a H1.out.1).mono ?_
   rintro e u' w'' ⟨rfl, rfl, h2⟩
   exact ⟨_, results_tmp rfl _ _ _, rfl, H1.out.trans h2⟩
  ·obtain ⟨k, rfl⟩ := Int.eq_ofNat_of_zero_le hfb.1
   by_cases h247 : (247 : Int) < k
   ·have hr : rdU l a = (0, a, 211) := by unfold rdU; rw [hf]; simp only [if_neg hs, if_pos h247]
    rw [hr]
    clear hr hf
    go_enter_defers Tryz.func102, Tryz.ntmps102
    go_wp2_with fail
    refine (dead_no H.out).mono ?_
    rintro e w1 ⟨rfl, rfl⟩
    go_wp2_with fail
    refine HT.out.mono ?_
    rintro e w1 ⟨v1, rfl, hi, h1⟩
    obtain ⟨b, o, c, rfl, hc, hlt⟩ := hi.one
    obtain ⟨d0, d1, d2, g1, g2⟩ := h1.1.cells
    have H1 := hH h1
    clear h1 hi
    go_wp2_with fail
    refine (dead_no H1.out.1).mono ?_
    rintro e w2 ⟨rfl, rfl⟩
    go_wp2
    refine leaves_cons (f := 101) (args := #[.pointer (some ⟨R, 0, none⟩), .int .i64 a]) (by simp) (by simp [go_sem]) ?_
    have h2 := H1.out.1.set2 211
    refine (back_rd .returning a h2).mono ?_
    rintro e u' w'' ⟨rfl, rfl, h3⟩
    exact ⟨_, results_tmp rfl _ _ _, rfl, RdTo.trans ⟨h2, only_trans H1.out.2 (only_set _ _ _ _)⟩ h3⟩
   ·obtain ⟨m, rfl⟩ : ∃ m, k = 239 + m := ⟨k - 239, by omega⟩
    have hm : ((239 + m : Nat) : Int) - 239 = m := by omega
    have hr : rdU l a = if l.length < a + 1 + m then (0, a, 210) else if (putsU (numB ((l.drop (a + 1)).take m))).length = m + 1 then (numB ((l.drop (a + 1)).take m), a + 1 + m, 0) else (0, a, 211) := by
     unfold rdU; rw [hf]; simp only [if_neg hs, if_neg h247, hm, Int.toNat_natCast]
    rw [hr]
    clear hr hf hm
    by_cases hsh : l.length < a + 1 + m
    ·rw [if_pos hsh]
     go_enter_defers Tryz.func102, Tryz.ntmps102
     go_wp2_with fail
     refine (dead_no H.out).mono ?_
     rintro e w1 ⟨rfl, rfl⟩
     go_wp2_with fail
     refine HT.out.mono ?_
     rintro e w1 ⟨v1, rfl, hi, h1⟩
     obtain ⟨b, o, c, rfl, hc, hlt⟩ := hi.one
     have H1 := hH h1
     clear h1 hi
     go_wp2_with fail
     refine (dead_no H1.out.1).mono ?_
     rintro e w2 ⟨rfl, rfl⟩
     go_wp2_with fail
     refine (take_short H1.out.1 (by omega) hl _ (by omega)).mono ?_
     rintro e w2 ⟨rfl, h2⟩
     have H2 := hH (H1.out.trans h2)
     clear h2
     go_wp2_with fail
     go_loop [4, 44] (fun n i => n = .int .u64 0 ∧ i = .int .i64 0) (fun _ _ => 0)
     case atStart => exact ⟨rfl, rfl⟩
     case round =>
      obtain ⟨rfl, rfl⟩ := hrel
      go_wp2_with fail
      refine (dead_yes H2.out.1 (by omega)).mono ?_
      rintro e w3 ⟨rfl, rfl⟩
      go_wp2_with fail
      refine (dead_yes H2.out.1 (by omega)).mono ?_
      rintro e w3 ⟨rfl, rfl⟩
      go_wp2
      refine leaves_cons (f := 101) (args := #[.pointer (some ⟨R, 0, none⟩), .int .i64 a]) (by simp) (by simp [go_sem]) ?_
      refine (back_rd .returning a H2.out.1).mono ?_
      rintro e u' w'' ⟨rfl, rfl, h3⟩
      exact ⟨_, results_tmp rfl _ _ _, rfl, H2.out.trans h3⟩
    ·rw [if_neg hsh]
     obtain ⟨r, hr⟩ : ∃ r, (if (putsU (numB ((l.drop (a + 1)).take m))).length = m + 1 then (numB ((l.drop (a + 1)).take m), a + 1 + m, (0 : Int)) else (0, a, 211)) = r := ⟨_, rfl⟩
     rw [hr]
     have hdl : ((l.drop (a + 1)).take m).length = m := by simp; omega
     have hdb : AllB ((l.drop (a + 1)).take m) := fun x hx => hb x (List.mem_of_mem_drop (List.mem_of_mem_take hx))
     generalize hDD : (l.drop (a + 1)).take m = D at *
     have hm1 : 1 ≤ m := by omega
     have hm8 : m ≤ 8 := by omega
     obtain ⟨x0, hx0⟩ := getElem?_ex (l := D) (k := 0) (by omega)
     have hx0b := hdb x0 (List.mem_of_getElem? hx0)
     have htest := rdU_test hdb (by omega) (by omega)
     rw [hdl, hx0] at htest
     have hT2 : ∀ w1, RdTo w R v l w1 (a + 1) 0 → Calls Tryz.prog 133 #[.pointer (some ⟨R, 0, none⟩), .int .i64 (m : Int)] w1 fun e w' => ∃ v', e = .returned v' ∧ Ints .u8 w' v' D ∧ RdTo w1 R v l w' (a + 1 + m) 0 := fun w1 h1 => by
      have := take_yes (n := m) h1.1 hl (by omega)
      rwa [hDD] at this
     have HT2 := hH hT2
     have HTT := hH htest
     have HR := hH hr
     have HX0 := hH hx0
     have HDL := hH hdl
     have HDB := hH hdb
     clear hT2 htest hx0 hdl hdb hDD hr
     go_enter_defers Tryz.func102, Tryz.ntmps102
     go_wp2_with fail
     refine (dead_no H.out).mono ?_
     rintro e w1 ⟨rfl, rfl⟩
     go_wp2_with fail
     refine HT.out.mono ?_
     rintro e w1 ⟨v1, rfl, hi, h1⟩
     obtain ⟨b, o, c, rfl, hc, hlt⟩ := hi.one
     have H1 := hH h1
     clear h1 hi
     go_wp2_with fail
     refine (dead_no H1.out.1).mono ?_
     rintro e w2 ⟨rfl, rfl⟩
     go_wp2_with fail
     rw [show (239 + (m : Int) - 240 + 1) = m by omega]
     refine (HT2.out w1 H1.out).mono ?_
     rintro e w2 ⟨v2, rfl, hi2, h2⟩
     have H2 := hH (H1.out.trans h2)
     obtain ⟨ad2, c2', rfl, e1, e2, e3, hcell⟩ := hi2
     rw [HDL.out] at e1 e3 ⊢
     have HC := hH hcell
     clear h2 hcell
     go_wp2_with fail
     go_loop [4, 44] (fun n i => ∃ k : Nat, k ≤ m ∧ i = .int .i64 k ∧ n = .int .u64 (numB (D.take k) : Int)) (fun _ i => m - (intOf i).toNat)
     case atStart => exact ⟨0, Nat.zero_le _, rfl, rfl⟩
     case round =>
      obtain ⟨k, hk, rfl, rfl⟩ := hrel
      by_cases hlt' : k < m
      ·obtain ⟨x, hx⟩ := getElem?_ex (l := D) (k := k) (by rw [HDL.out]; exact hlt')
       have hxb := HDB.out x (List.mem_of_getElem? hx)
       obtain ⟨b2, o2, rfl, hlt2, hc2⟩ := HC.out k x hx
       have hstep : numB (D.take (k + 1)) = numB (D.take k) * 256 + x.toNat := by rw [take_snoc' hx, numB_snoc]
       have hNk : numB (D.take k) < 72057594037927936 := by
        have h1 := numB_lt (D.take k) fun y hy => HDB.out y (List.mem_of_mem_take hy)
        have h2 : (D.take k).length ≤ 7 := by simp; omega
        exact Nat.lt_of_lt_of_le h1 (Nat.le_trans (Nat.pow_le_pow_right (by omega) h2) (by decide))
       have HS := hH hstep
       clear hstep hx
       go_wp2
       go_round
       case rel => exact ⟨k + 1, by omega, by go_num, by rw [HS.out]; exact or_byte hNk hxb⟩
       case measure => simp [intOf]; omega
      ·obtain rfl : k = m := by omega
       have hfull : numB (D.take k) = numB D := by rw [List.take_of_length_le (by rw [HDL.out]; exact Nat.le_refl _)]
       rw [hfull]
       obtain ⟨b2, o2, rfl, hlt2, hc2⟩ := HC.out 0 x0 HX0.out
       rw [Nat.add_zero] at hc2
       clear hfull
       obtain ⟨d0, d1, d2, g1, g2⟩ := H2.out.1.cells
       by_cases hz : x0 = 0
       ·subst hz
        have hno : ¬ (putsU (numB D)).length = k + 1 := fun hc => HTT.out.1 hc (.inl rfl)
        have HN := hH hno
        clear hno
        go_wp2_with fail
        refine (dead_no H2.out.1).mono ?_
        rintro e w3 ⟨rfl, rfl⟩
        go_wp2_with fail
        refine (dead_yes (H2.out.1.set2 211) (by omega)).mono ?_
        rintro e w3 ⟨rfl, rfl⟩
        go_wp2
        refine leaves_cons (f := 101) (args := #[.pointer (some ⟨R, 0, none⟩), .int .i64 a]) (by simp) (by simp [go_sem]) ?_
        refine (back_rd .returning a (H2.out.1.set2 211)).mono ?_
        rintro e u' w'' ⟨rfl, rfl, h3⟩
        have hr := HR.out
        rw [if_neg HN.out] at hr
        subst hr
        exact ⟨_, results_tmp rfl _ _ _, rfl, RdTo.trans ⟨H2.out.1.set2 211, only_trans H2.out.2 (only_set _ _ _ _)⟩ h3⟩
       ·have hzb : (x0 == 0) = false := by simpa using hz
        by_cases hlow : numB D < 240
        ·have hno : ¬ (putsU (numB D)).length = k + 1 := fun hc => HTT.out.1 hc (.inr hlow)
         have HN := hH hno
         have hlow' : (numB D : Int) < 240 := by omega
         clear hno
         go_wp2_with fail
         refine (dead_no H2.out.1).mono ?_
         rintro e w3 ⟨rfl, rfl⟩
         go_wp2_with fail
         refine (dead_yes (H2.out.1.set2 211) (by omega)).mono ?_
         rintro e w3 ⟨rfl, rfl⟩
         go_wp2
         refine leaves_cons (f := 101) (args := #[.pointer (some ⟨R, 0, none⟩), .int .i64 a]) (by simp) (by simp [go_sem]) ?_
         refine (back_rd .returning a (H2.out.1.set2 211)).mono ?_
         rintro e u' w'' ⟨rfl, rfl, h3⟩
         have hr := HR.out
         rw [if_neg HN.out] at hr
         subst hr
         exact ⟨_, results_tmp rfl _ _ _, rfl, RdTo.trans ⟨H2.out.1.set2 211, only_trans H2.out.2 (only_set _ _ _ _)⟩ h3⟩
        ·have hyes : (putsU (numB D)).length = k + 1 := HTT.out.2 (by rintro (h | h); exact hz (by simpa using h); exact hlow h)
         have HY := hH hyes
         have hlow' : ¬ (numB D : Int) < 240 := by omega
         clear hyes
         go_wp2_with fail
         refine (dead_no H2.out.1).mono ?_
         rintro e w3 ⟨rfl, rfl⟩
         go_wp2_with fail
         refine (dead_no H2.out.1).mono ?_
         rintro e w3 ⟨rfl, rfl⟩
         go_wp2
         refine leaves_cons (f := 101) (args := #[.pointer (some ⟨R, 0, none⟩), .int .i64 a]) (by simp) (by simp [go_sem]) ?_
         refine (back_rd .returning a H2.out.1).mono ?_
         rintro e u' w'' ⟨rfl, rfl, h3⟩
         have hr := HR.out
         rw [if_pos HY.out] at hr
         subst hr
         exact ⟨_, results_tmp rfl _ _ _, rfl, H2.out.trans h3⟩
end Go.Proofs.YtgobbecpnjelmaaGreat

namespace Go.Proofs.YtgobbecpnjelmaaGreat
open Go.RowKit

end Go.Proofs.YtgobbecpnjelmaaGreat

namespace Go.Proofs.YtgobbecpnjelmaaGreat
open Go.RowKit

set_option maxRecDepth 100000 in
set_option maxHeartbeats 2000000 in
theorem readN_any {w : World} {R : Nat} {v : Value} {l : List Int} {a : Nat} (h : Rd w R v l a 0) (hb : AllB l) (ha : a ≤ l.length) (hl : l.length ≤ 100000) (most : Int) (hm : Ok64 most) :
  Calls Tryz.prog 61 #[.pointer (some ⟨R, 0, none⟩), .int .i64 most] w fun e w' => e = .returned (.int .i64 ((rdN l a most).1 : Int)) ∧ RdTo w R v l w' (rdN l a most).2.1 (rdN l a most).2.2 := by
 have HU := hH (readU_any h hb ha hl)
 have H := hH h
 obtain ⟨c0, c1, c2, f1, f2⟩ := h.cells
 have hbad := rdU_bad l a
 have hok := fun h => (rdU_ok l hb a h).2.2.1
 unfold rdN
 generalize rdU l a = r at *
 obtain ⟨n, a', e'⟩ := r
 simp only at hbad hok HU ⊢
 clear h
 unfold Ok64 at hm
 by_cases he : e' = 0
 ·subst he
  have hn := hok rfl
  rw [if_neg (by omega)]
  clear hok hbad
  by_cases hmost : most < 0 ∨ most < (n : Int)
  ·rw [if_pos hmost]
   have hc : most < 0 ∨ (¬ most < 0 ∧ most < (n : Int)) := by omega
   clear hmost
   rcases hc with hc | ⟨hc, hc2⟩
   all_goals
    go_enter_defers Tryz.func61, Tryz.ntmps61
    go_wp2_with fail
    refine (dead_no H.out).mono ?_
    rintro e w1 ⟨rfl, rfl⟩
    go_wp2_with fail
    refine HU.out.mono ?_
    rintro e w1 ⟨rfl, h1⟩
    obtain ⟨d0, d1, d2, g1, g2⟩ := h1.1.cells
    have H1 := hH h1
    clear h1
    go_wp2_with fail
    refine (dead_no H1.out.1).mono ?_
    rintro e w2 ⟨rfl, rfl⟩
    go_wp2_with fail
    refine (dead_yes (H1.out.1.set2 211) (by omega)).mono ?_
    rintro e w3 ⟨rfl, rfl⟩
    go_wp2
    refine leaves_cons (f := 101) (args := #[.pointer (some ⟨R, 0, none⟩), .int .i64 a]) (by simp) (by simp [go_sem]) ?_
    refine (back_rd .returning a (H1.out.1.set2 211)).mono ?_
    rintro e u' w'' ⟨rfl, rfl, h3⟩
    exact ⟨_, results_tmp rfl _ _ _, rfl, RdTo.trans ⟨H1.out.1.set2 211, only_trans H1.out.2 (only_set _ _ _ _)⟩ h3⟩
  ·rw [if_neg hmost]
   obtain ⟨hm0, hm1⟩ : ¬ most < 0 ∧ ¬ most < (n : Int) := by omega
   have hn64 : (n : Int) ≤ 9223372036854775807 := by omega
   clear hmost
   go_enter_defers Tryz.func61, Tryz.ntmps61
   go_wp2_with fail
   refine (dead_no H.out).mono ?_
   rintro e w1 ⟨rfl, rfl⟩
   go_wp2_with fail
   refine HU.out.mono ?_
   rintro e w1 ⟨rfl, h1⟩
   obtain ⟨d0, d1, d2, g1, g2⟩ := h1.1.cells
   have H1 := hH h1
   clear h1
   go_wp2_with fail
   refine (dead_no H1.out.1).mono ?_
   rintro e w2 ⟨rfl, rfl⟩
   go_wp2_with fail
   refine (dead_no H1.out.1).mono ?_
   rintro e w3 ⟨rfl, rfl⟩
   go_wp2
   refine leaves_cons (f := 101) (args := #[.pointer (some ⟨R, 0, none⟩), .int .i64 a]) (by simp) (by simp [go_sem]) ?_
   refine (back_rd .returning a H1.out.1).mono ?_
   rintro e u' w'' ⟨rfl, rfl, h3⟩
   exact ⟨_, results_tmp rfl _ _ _, rfl, H1.out.trans h3⟩
 ·obtain ⟨rfl, rfl⟩ := hbad he
  rw [if_pos he]
  clear hok hbad
  go_enter_defers Tryz.func61, Tryz.ntmps61
  go_wp2_with fail
  refine (dead_no H.out).mono ?_
  rintro e w1 ⟨rfl, rfl⟩
  go_wp2_with fail
  refine HU.out.mono ?_
  rintro e w1 ⟨rfl, h1⟩
  have H1 := hH h1
  clear h1
  go_wp2_with fail
  refine (dead_yes H1.out.1 he).mono ?_
  rintro e w2 ⟨rfl, rfl⟩
  go_wp2_with fail
  refine (dead_yes H1.out.1 he).mono ?_
  rintro e w3 ⟨rfl, rfl⟩
  go_wp2
  refine leaves_cons (f := 101) (args := #[.pointer (some ⟨R, 0, none⟩), .int .i64 a']) (by simp) (by simp [go_sem]) ?_
  refine (back_rd .returning a' H1.out.1).mono ?_
  rintro e u' w'' ⟨rfl, rfl, h3⟩
  rw [if_neg he] at h3
  exact ⟨_, results_tmp rfl _ _ _, rfl, H1.out.trans h3⟩

theorem unzig_bits {n : Nat} (h : n < 18446744073709551616) : bits BinOp.xor IntKind.i64 ((n : Int) / 2) (wrap64 (-wrap64 (bits BinOp.and IntKind.u64 (n : Int) 1))) = unzig n := by
 have hand : bits BinOp.and IntKind.u64 (n : Int) 1 = ((n % 2 : Nat) : Int) := by
  have := bits_and_u64_nat n 1 (by omega) (by omega)
  rw [Nat.and_one_is_mod] at this
  exact this
 have hw : wrap64 (-wrap64 ((n % 2 : Nat) : Int)) = -((n : Int) % 2) := by unfold wrap64; omega
 rw [hand, hw]
 unfold unzig
 by_cases h1 : n % 2 = 1
 ·rw [if_pos h1]
  have e1 : -((n : Int) % 2) = -1 := by omega
  have e2 : (n : Int) / 2 = ((n / 2 : Nat) : Int) := by omega
  rw [e1, e2]
  show IntKind.i64.wrap ((BitVec.ofInt 64 ((n / 2 : Nat) : Int) ^^^ BitVec.ofInt 64 (-1)).toNat : Int) = _
  have e3 : BitVec.ofInt 64 (-1) = BitVec.allOnes 64 := by decide
  rw [e3, BitVec.xor_allOnes, BitVec.toNat_not, BitVec.ofInt_natCast, BitVec.toNat_ofNat, IntKind.wrap_i64]
  omega
 ·rw [if_neg h1]
  have e1 : -((n : Int) % 2) = 0 := by omega
  have e2 : (n : Int) / 2 = ((n / 2 : Nat) : Int) := by omega
  rw [e1, e2]
  show IntKind.i64.wrap ((BitVec.ofInt 64 ((n / 2 : Nat) : Int) ^^^ BitVec.ofInt 64 0).toNat : Int) = _
  have e3 : BitVec.ofInt 64 0 = 0#64 := by decide
  rw [e3, BitVec.xor_zero, BitVec.ofInt_natCast, BitVec.toNat_ofNat, IntKind.wrap_i64]
  omega

set_option maxRecDepth 100000 in
set_option maxHeartbeats 2000000 in
theorem readI_any {w : World} {R : Nat} {v : Value} {l : List Int} {a : Nat} (h : Rd w R v l a 0) (hb : AllB l) (ha : a ≤ l.length) (hl : l.length ≤ 100000) :
  Calls Tryz.prog 104 #[.pointer (some ⟨R, 0, none⟩)] w fun e w' => e = .returned (.int .i64 (rdI l a).1) ∧ RdTo w R v l w' (rdI l a).2.1 (rdI l a).2.2 := by
 have HU := hH (readU_any h hb ha hl)
 have hn : (rdU l a).1 < 18446744073709551616 := by
  by_cases he : (rdU l a).2.2 = 0
  ·exact (rdU_ok l hb a he).2.2.1
  ·rw [(rdU_bad l a he).1]; decide
 unfold rdI
 generalize rdU l a = r at *
 obtain ⟨n, a', e'⟩ := r
 simp only at HU hn ⊢
 have hz := unzig_bits hn
 have HZ := hH hz
 clear h hz
 go_enter Tryz.func104, Tryz.ntmps104
 go_wp2_with fail
 refine HU.out.mono ?_
 rintro e w1 ⟨rfl, h1⟩
 have H1 := hH h1
 clear h1
 go_wp2
 go_ret
 exact ⟨ret_int HZ.out, H1.out⟩
end Go.Proofs.YtgobbecpnjelmaaGreat

namespace Go.Proofs.YtgobbecpnjelmaaGreat
open Go.RowKit

theorem rdN_facts (l : List Int) (hb : AllB l) (a : Nat) (most : Int) : ((rdN l a most).2.2 ≠ 0 → (rdN l a most).1 = 0 ∧ (rdN l a most).2.1 = a) ∧ ((rdN l a most).2.2 = 0 → a < (rdN l a most).2.1 ∧ (rdN l a most).2.1 ≤ l.length ∧ ((rdN l a most).1 : Int) ≤ most) := by
 have h1 := rdU_bad l a
 have h2 := rdU_ok l hb a
 unfold rdN
 by_cases he : (rdU l a).2.2 = 0
 ·rw [if_neg (by omega)]
  by_cases hm : most < 0 ∨ most < ((rdU l a).1 : Int)
  ·rw [if_pos hm]; simp
  ·rw [if_neg hm]
   exact ⟨fun h => absurd he h, fun _ => ⟨(h2 he).1, (h2 he).2.1, by omega⟩⟩
 ·rw [if_pos he]
  exact ⟨fun _ => ⟨rfl, rfl⟩, fun h => absurd h he⟩

theorem rdI_facts (l : List Int) (hb : AllB l) (a : Nat) : ((rdI l a).2.2 ≠ 0 → (rdI l a).1 = 0 ∧ (rdI l a).2.1 = a) ∧ ((rdI l a).2.2 = 0 → a < (rdI l a).2.1 ∧ (rdI l a).2.1 ≤ l.length) := by
 have h1 := rdU_bad l a
 have h2 := rdU_ok l hb a
 unfold rdI
 exact ⟨fun h => ⟨by simp only; rw [(h1 h).1]; rfl, (h1 h).2⟩, fun h => ⟨(h2 h).1, (h2 h).2.1⟩⟩

/-- One number put behind a row of integers of the call's own. -/
theorem OwnI.app {w : World} {base : Nat} {v' : Value} {acc : List Int} {x : Int} (h : w.ownsRow base 3 1 v' (acc.length + 1) (acc.map (Value.int .i64) ++ [.int .i64 x])) : w.ownsRow base 3 1 v' (acc ++ [x]).length ((acc ++ [x]).map (Value.int .i64)) := by simpa using h

theorem own_only {w w' : World} {base e n R : Nat} {v : Value} {xs : List Value} (h : w.ownsRow base e 1 v n xs) (hg : w.grownBy w' (some R)) (hR : R < base) : w'.ownsRow base e 1 v n xs := by
 have hlt := h.lt
 refine ⟨h.1, ?_⟩
 rcases h.2 with h1 | ⟨g, cap, cur, rfl, h2, h3, h4⟩
 ·exact .inl h1
 ·exact .inr ⟨g, cap, cur, rfl, h2, (hg.block g (hlt g rfl).2 (by have := (hlt g rfl).1; simp; omega)).trans h3, h4⟩

theorem RdTo.belowB {w w2 w3 : World} {R : Nat} {v : Value} {l : List Int} {a0 a : Nat} {e0 e : Int} (h0 : Rd w R v l a0 e0) (h : RdTo w R v l w2 a e) (hb : Below w.heap.size w2 w3) : RdTo w R v l w3 a e := by
 refine ⟨⟨(hb.block R h0.lt).trans h.1.1, ?_⟩, ⟨hb.os.trans h.2.os, hb.tape.trans h.2.tape, hb.output.trans h.2.output, Nat.le_trans h.2.size hb.size, fun i hi hne => (hb.block i hi).trans (h.2.block i hi hne)⟩⟩
 obtain ⟨ad, c, rfl, g1, g2, g3, g4⟩ := h.1.2
 obtain ⟨ad', c', e1, _, _, _, g4'⟩ := h0.2
 injection e1 with e1 _ _
 subst e1
 refine ⟨ad, c, rfl, g1, g2, g3, fun i x hx => ?_⟩
 obtain ⟨b, o, rfl, hlt, hc⟩ := g4 i x hx
 obtain ⟨b', o', e2, hlt', _⟩ := g4' i x hx
 obtain ⟨rfl, rfl⟩ : b = b' ∧ o = o' := by injection e2 with e2; injection e2 with e3 e4; exact ⟨e3, e4⟩
 exact ⟨b, o, rfl, Nat.lt_of_lt_of_le hlt hb.size, (hb.cell (p := ⟨b, o + i, none⟩) hlt').trans hc⟩

end Go.Proofs.YtgobbecpnjelmaaGreat

namespace Go.Proofs.YtgobbecpnjelmaaGreat
open Go.RowKit

set_option maxRecDepth 100000 in
theorem from_any (v : Value) (l : List Int) (w : World) (h : Ints .u8 w v l) (hl : l.length ≤ 100000) :
  Calls Tryz.prog 59 #[v] w fun e w' => ∃ R v', e = .returned (.pointer (some ⟨R, 0, none⟩)) ∧ w.heap.size ≤ R ∧ Rd w' R v' l 0 0 ∧ Below w.heap.size w w' := by
 have HC := hH (clone8_any v l w h (by omega))
 clear h
 go_enter Tryz.func59, Tryz.ntmps59
 go_wp2_with fail
 refine HC.out.mono ?_
 rintro e w1 ⟨v1, rfl, ho, hb⟩
 have hI : Ints .u8 w1 v1 l := (Ints.own ho (by omega)).2
 have HI := hH hI; have HB := hH hb
 obtain ⟨ad, c, rfl⟩ := hI.shape
 clear ho hb hI
 go_wp2
 go_ret
 have hI := HI.out
 have hb1 : Below w1.heap.size w1 (w1.alloc (.cells #[.slice ad l.length c, .int .i64 0, .int .i64 0] 127)) := (Below.refl _ _).alloc (Nat.le_refl _) _
 exact ⟨w1.heap.size, _, rfl, HB.out.size, ⟨heap_alloc_new w1 _, hI.below hb1⟩, HB.out.alloc HB.out.size _⟩

theorem err_any {w : World} {R : Nat} {v : Value} {l : List Int} {a : Nat} {e0 : Int} (h : Rd w R v l a e0) : Calls Tryz.prog 62 #[.pointer (some ⟨R, 0, none⟩)] w fun e w' => e = .returned (.int .i64 e0) ∧ w = w' := by
 obtain ⟨c0, c1, c2, f1, f2⟩ := h.cells
 clear h
 go_enter Tryz.func62, Tryz.ntmps62
 go_wp2
 go_ret
 exact ⟨rfl, rfl⟩

theorem bleft_any {w : World} {R : Nat} {v : Value} {l : List Int} {a : Nat} {e0 : Int} (h : Rd w R v l a e0) (ha : a ≤ l.length) (hl : l.length ≤ 100000) : Calls Tryz.prog 110 #[.pointer (some ⟨R, 0, none⟩)] w fun e w' => e = .returned (.int .i64 ((l.length : Int) - a)) ∧ ∃ d, w' = w.drewN d := by
 obtain ⟨c0, c1, c2, f1, f2⟩ := h.cells
 obtain ⟨ad, c, rfl⟩ := h.2.shape
 clear h
 go_enter Tryz.func110, Tryz.ntmps110
 go_wp2
 go_quiet (fail)
 go_wp2
 go_ret
 exact ⟨rfl, _, rfl⟩

/-- How a reader that is made to fail fails. -/
def failE (e0 x : Int) : Int := if e0 = 0 then (if x = 0 then 211 else x) else e0

set_option maxRecDepth 100000 in
theorem fail_any {w : World} {R : Nat} {v : Value} {l : List Int} {a : Nat} {e0 : Int} (h : Rd w R v l a e0) (x : Int) : Calls Tryz.prog 103 #[.pointer (some ⟨R, 0, none⟩), .int .i64 x] w fun e w' => e = .returned (.tuple #[]) ∧ RdTo w R v l w' a (failE e0 x) := by
 obtain ⟨c0, c1, c2, f1, f2⟩ := h.cells
 have H := hH h
 clear h
 by_cases he : e0 = 0
 ·subst he
  by_cases hx : x = 0
  ·subst hx
   rw [failE, if_pos rfl, if_pos rfl]
   go_enter Tryz.func103, Tryz.ntmps103
   go_wp2_with fail
   refine (dead_no H.out).mono ?_
   rintro e w1 ⟨rfl, rfl⟩
   go_wp2
   go_end0
   exact ⟨rfl, H.out.set2 211, only_set _ _ _ _⟩
  ·rw [failE, if_pos rfl, if_neg hx]
   have hxb : (x == 0) = false := by simpa using hx
   go_enter Tryz.func103, Tryz.ntmps103
   go_wp2_with fail
   refine (dead_no H.out).mono ?_
   rintro e w1 ⟨rfl, rfl⟩
   go_wp2
   go_end0
   exact ⟨rfl, H.out.set2 x, only_set _ _ _ _⟩
 ·rw [failE, if_neg he]
  go_enter Tryz.func103, Tryz.ntmps103
  go_wp2_with fail
  refine (dead_yes H.out he).mono ?_
  rintro e w1 ⟨rfl, rfl⟩
  go_wp2
  refine bodyPost_ret (results_none rfl _ _ _) rfl ?_
  exact ⟨rfl, H.out, only_refl _ _⟩

theorem readU_dead {w : World} {R : Nat} {v : Value} {l : List Int} {a : Nat} {e0 : Int} (h : Rd w R v l a e0) (he : e0 ≠ 0) : Calls Tryz.prog 102 #[.pointer (some ⟨R, 0, none⟩)] w fun e w' => e = .returned (.int .u64 0) ∧ w = w' := by
 have H := hH (dead_yes h he)
 clear h he
 go_enter_defers Tryz.func102, Tryz.ntmps102
 go_wp2_with fail
 refine H.out.mono ?_
 rintro e w1 ⟨rfl, rfl⟩
 go_wp2
 exact ⟨_, results_tmp rfl _ _ _, rfl, rfl⟩

theorem readN_dead {w : World} {R : Nat} {v : Value} {l : List Int} {a : Nat} {e0 : Int} (h : Rd w R v l a e0) (he : e0 ≠ 0) (most : Int) : Calls Tryz.prog 61 #[.pointer (some ⟨R, 0, none⟩), .int .i64 most] w fun e w' => e = .returned (.int .i64 0) ∧ w = w' := by
 have H := hH (dead_yes h he)
 clear h he
 go_enter_defers Tryz.func61, Tryz.ntmps61
 go_wp2_with fail
 refine H.out.mono ?_
 rintro e w1 ⟨rfl, rfl⟩
 go_wp2
 exact ⟨_, results_tmp rfl _ _ _, rfl, rfl⟩

set_option maxRecDepth 100000 in
theorem readI_dead {w : World} {R : Nat} {v : Value} {l : List Int} {a : Nat} {e0 : Int} (h : Rd w R v l a e0) (he : e0 ≠ 0) : Calls Tryz.prog 104 #[.pointer (some ⟨R, 0, none⟩)] w fun e w' => e = .returned (.int .i64 0) ∧ w = w' := by
 have H := hH (readU_dead h he)
 clear h he
 go_enter Tryz.func104, Tryz.ntmps104
 go_wp2_with fail
 refine H.out.mono ?_
 rintro e w1 ⟨rfl, rfl⟩
 go_wp2
 go_ret
 exact ⟨ret_int (by decide +kernel), rfl⟩

end Go.Proofs.YtgobbecpnjelmaaGreat

namespace Go.Proofs.YtgobbecpnjelmaaGreat
open Go.RowKit

end Go.Proofs.YtgobbecpnjelmaaGreat

namespace Go.Proofs.YtgobbecpnjelmaaGreat
open Go.RowKit

def rdU' (l : List Int) (a : Nat) (e : Int) : Nat × Nat × Int := if e = 0 then rdU l a else (0, a, e)

def rdN' (l : List Int) (a : Nat) (e most : Int) : Nat × Nat × Int := if e = 0 then rdN l a most else (0, a, e)

def rdI' (l : List Int) (a : Nat) (e : Int) : Int × Nat × Int := if e = 0 then rdI l a else (0, a, e)

theorem rdU'_facts (l : List Int) (hb : AllB l) (a : Nat) (e : Int) : ((rdU' l a e).2.2 ≠ 0 → (rdU' l a e).1 = 0 ∧ (rdU' l a e).2.1 = a) ∧ (rdU' l a e).1 < 18446744073709551616 := by
 have h1 := rdU_bad l a
 have h2 := rdU_ok l hb a
 unfold rdU'
 by_cases he : e = 0
 ·rw [if_pos he]
  refine ⟨h1, ?_⟩
  by_cases h3 : (rdU l a).2.2 = 0
  ·exact (h2 h3).2.2.1
  ·rw [(h1 h3).1]; decide
 ·rw [if_neg he]; exact ⟨fun _ => ⟨rfl, rfl⟩, by simp⟩

theorem rdN'_of (l : List Int) (a : Nat) (e most : Int) : rdN' l a e most = if (rdU' l a e).2.2 ≠ 0 then (0, a, (rdU' l a e).2.2) else if most < 0 ∨ most < ((rdU' l a e).1 : Int) then (0, a, 211) else rdU' l a e := by
 unfold rdN' rdU' rdN
 by_cases he : e = 0
 ·simp only [if_pos he]
 ·simp only [if_neg he]; rw [if_pos (by exact he)]

theorem rdN'_facts (l : List Int) (hb : AllB l) (a : Nat) (e most : Int) : ((rdN' l a e most).2.2 ≠ 0 → (rdN' l a e most).1 = 0 ∧ (rdN' l a e most).2.1 = a) ∧ ((rdN' l a e most).2.2 = 0 → a < (rdN' l a e most).2.1 ∧ (rdN' l a e most).2.1 ≤ l.length ∧ ((rdN' l a e most).1 : Int) ≤ most) := by
 unfold rdN'
 by_cases he : e = 0
 ·rw [if_pos he]; exact rdN_facts l hb a most
 ·rw [if_neg he]; exact ⟨fun _ => ⟨rfl, rfl⟩, fun h => absurd h he⟩

end Go.Proofs.YtgobbecpnjelmaaGreat

namespace Go.Proofs.YtgobbecpnjelmaaGreat
open Go.RowKit

end Go.Proofs.YtgobbecpnjelmaaGreat

namespace Go.Proofs.YtgobbecpnjelmaaGreat

/-- The bytes of l from a up to a' are b. -/
def Got (l : List Int) (a a' : Nat) (b : List Int) : Prop := a ≤ a' ∧ a' ≤ l.length ∧ b = (l.drop a).take (a' - a)

theorem Got.refl {l : List Int} {a : Nat} (h : a ≤ l.length) : Got l a a [] := ⟨Nat.le_refl _, h, by simp⟩

theorem Got.trans {l : List Int} {a b c : Nat} {x y : List Int} (h : Got l a b x) (k : Got l b c y) : Got l a c (x ++ y) := by
 obtain ⟨h1, h2, rfl⟩ := h
 obtain ⟨k1, k2, rfl⟩ := k
 refine ⟨by omega, k2, ?_⟩
 have : l.drop b = (l.drop a).drop (b - a) := by rw [List.drop_drop]; congr 1; omega
 rw [this, ← List.take_add]
 congr 1
 omega

theorem rdN'_le {l : List Int} (hb : AllB l) {a : Nat} (ha : a ≤ l.length) (e most : Int) : (rdN' l a e most).2.1 ≤ l.length := by
 have hf := rdN'_facts l hb a e most
 by_cases h2 : (rdN' l a e most).2.2 = 0
 ·exact (hf.2 h2).2.1
 ·rw [(hf.1 h2).2]; exact ha

theorem gotN {l : List Int} (hb : AllB l) {a : Nat} {e most : Int} (h : (rdN' l a e most).2.2 = 0) : e = 0 ∧ Got l a (rdN' l a e most).2.1 (putsU (rdN' l a e most).1) ∧ ((rdN' l a e most).1 : Int) ≤ most := by
 by_cases he : e = 0
 ·subst he
  refine ⟨rfl, ?_⟩
  rw [rdN', if_pos rfl] at h ⊢
  unfold rdN at h ⊢
  by_cases h1 : (rdU l a).2.2 = 0
  ·rw [if_neg (by omega)] at h ⊢
   by_cases hm : most < 0 ∨ most < ((rdU l a).1 : Int)
   ·rw [if_pos hm] at h; simp at h
   ·rw [if_neg hm]
    obtain ⟨g1, g2, g3, g4⟩ := rdU_ok l hb a h1
    exact ⟨⟨by omega, g2, g4⟩, by omega⟩
  ·rw [if_pos h1] at h; exact absurd h h1
 ·rw [rdN', if_neg he] at h
  exact absurd h he

theorem rdI_64 (l : List Int) (hb : AllB l) (a : Nat) : Ok64 (rdI l a).1 := by
 have hn := (rdU'_facts l hb a 0).2
 rw [rdU', if_pos rfl] at hn
 show Ok64 (unzig (rdU l a).1)
 unfold Ok64 unzig
 split <;> omega

theorem rdI'_le {l : List Int} (hb : AllB l) {a : Nat} (ha : a ≤ l.length) (e : Int) : (rdI' l a e).2.1 ≤ l.length := by
 unfold rdI'
 split
 ·have hf := rdI_facts l hb a
  by_cases h : (rdI l a).2.2 = 0
  ·exact (hf.2 h).2
  ·rw [(hf.1 h).2]; exact ha
 ·exact ha

theorem rdI'_64 {l : List Int} (hb : AllB l) (a : Nat) (e : Int) : Ok64 (rdI' l a e).1 := by
 unfold rdI'
 split
 ·exact rdI_64 l hb a
 ·show Ok64 0
  decide

theorem gotI {l : List Int} (hb : AllB l) {a : Nat} {e : Int} (h : (rdI' l a e).2.2 = 0) : e = 0 ∧ Got l a (rdI' l a e).2.1 (putsI (rdI' l a e).1) := by
 by_cases he : e = 0
 ·subst he
  refine ⟨rfl, ?_⟩
  rw [rdI', if_pos rfl] at h ⊢
  obtain ⟨g1, g2, g3, g4⟩ := rdU_ok l hb a h
  have e1 : (rdI l a).2.1 = (rdU l a).2.1 := rfl
  refine ⟨by omega, by rw [e1]; exact g2, ?_⟩
  show putsU (zig (unzig (rdU l a).1)) = _
  rw [zig_unzig]
  exact g4
 ·rw [rdI', if_neg he] at h
  exact absurd h he

/-- So many numbers are read, one by one. -/
def rdXs (l : List Int) : Nat → Nat → Int → List Int × Nat × Int
 | 0, a, e => ([], a, e)
 | n + 1, a, e => ((rdXs l n a e).1 ++ [(rdI' l (rdXs l n a e).2.1 (rdXs l n a e).2.2).1], (rdI' l (rdXs l n a e).2.1 (rdXs l n a e).2.2).2)

theorem rdXs_next {l : List Int} {n a : Nat} {e : Int} {xs : List Int} {a1 : Nat} {e1 : Int} {x : Int} {a2 : Nat} {e2 : Int} (h : rdXs l n a e = (xs, a1, e1)) (k : rdI' l a1 e1 = (x, a2, e2)) : rdXs l (n + 1) a e = (xs ++ [x], a2, e2) := by
 rw [rdXs, h]
 dsimp only
 rw [k]

theorem rdXs_le {l : List Int} (hb : AllB l) {a : Nat} (ha : a ≤ l.length) (e : Int) : ∀ n, (rdXs l n a e).2.1 ≤ l.length
 | 0 => ha
 | n + 1 => rdI'_le hb (rdXs_le hb ha e n) _

theorem rdXs_len (l : List Int) (a : Nat) (e : Int) : ∀ n, (rdXs l n a e).1.length = n
 | 0 => rfl
 | n + 1 => by rw [rdXs, List.length_append, rdXs_len l a e n]; rfl

theorem putsIs_snoc (xs : List Int) (x : Int) : putsIs (xs ++ [x]) = putsIs xs ++ putsI x := by
 induction xs with
 | nil => simp [putsIs]
 | cons a l ih => simp [putsIs, ih]

theorem rdXs_got {l : List Int} (hb : AllB l) {a : Nat} {e : Int} (ha : a ≤ l.length) : ∀ n, (rdXs l n a e).2.2 = 0 → e = 0 ∧ Got l a (rdXs l n a e).2.1 (putsIs (rdXs l n a e).1)
 | 0, h => ⟨h, Got.refl ha⟩
 | n + 1, h => by
  obtain ⟨g1, g2⟩ := gotI hb (show (rdI' l (rdXs l n a e).2.1 (rdXs l n a e).2.2).2.2 = 0 from h)
  obtain ⟨k1, k2⟩ := rdXs_got hb ha n g1
  refine ⟨k1, ?_⟩
  show Got l a _ (putsIs ((rdXs l n a e).1 ++ [_]))
  rw [putsIs_snoc]
  exact k2.trans g2

theorem putsU_all (n : Nat) : AllB (putsU n) := by
 intro x hx
 unfold putsU at hx
 split at hx
 ·simp at hx; omega
 ·simp only [List.mem_cons] at hx
  rcases hx with rfl | hx
  ·have : (up n).length ≤ 8 := upF_length 8 n
   omega
  ·exact up_byte n x hx

theorem putsIs_all : ∀ l : List Int, AllB (putsIs l) := by
 intro l
 induction l with
 | nil => intro x hx; simp [putsIs] at hx
 | cons i l ih =>
  intro x hx
  simp only [putsIs, List.mem_append] at hx
  rcases hx with hx | hx
  ·exact putsU_all _ x hx
  ·exact ih x hx

theorem rdI_puts (pre rest : List Int) (i : Int) (h : Ok64 i) : rdI (pre ++ (putsI i ++ rest)) pre.length = (i, pre.length + (putsI i).length, 0) := by
 have := rdU_puts pre rest (zig i) (by have := zig_lt h; omega)
 unfold rdI
 rw [show pre ++ (putsI i ++ rest) = pre ++ (putsU (zig i) ++ rest) from rfl, this]
 simp only [unzig_zig]; rfl

theorem rdN_puts (pre rest : List Int) (n : Nat) (h : n < 18446744073709551616) (most : Int) (hm : (n : Int) ≤ most) : rdN (pre ++ (putsU n ++ rest)) pre.length most = (n, pre.length + (putsU n).length, 0) := by
 unfold rdN
 rw [rdU_puts pre rest n h]
 simp only
 rw [if_neg (by omega), if_neg (by omega)]
end Go.Proofs.YtgobbecpnjelmaaGreat

namespace Go.Proofs.YtgobbecpnjelmaaGreat
open Go.RowKit

def gcdZ (a b : Int) : Int := (Nat.gcd a.natAbs b.natAbs : Int)

theorem gcd_step (x y : Nat) : Nat.gcd x y = Nat.gcd y (x % y) := by
 rw [Nat.gcd_comm x y, Nat.gcd_rec, Nat.gcd_comm]

set_option maxHeartbeats 400000 in
theorem gcd_any (a b : Int) (w : World) (ha : Ok64 a) (hb : Ok64 b) :
  Calls Tryz.prog 138 #[.int .i64 a, .int .i64 b] w fun e w' => e = .returned (.tuple #[.int .i64 (fitV (gcdZ a b)), .int .i64 (fitE (gcdZ a b))]) ∧ ∃ n, w' = w.drewN n := by
 have hxa : (a.natAbs : Int) ≤ 18446744073709551615 := by have := ha.1; have := ha.2; omega
 have hxb : (b.natAbs : Int) ≤ 18446744073709551615 := by have := hb.1; have := hb.2; omega
 go_enter Tryz.func138, Tryz.ntmps138
 go_wp2_with (go_at_call 150; refine (size_any _ _ (by assumption)).mono ?_; rintro e w' ⟨rfl, rfl⟩)
 go_loopw [6, 7] (fun x y wr => ∃ (p q : Nat), x = .int .u64 p ∧ y = .int .u64 q ∧ (p : Int) ≤ 18446744073709551615 ∧ (q : Int) ≤ 18446744073709551615 ∧ Nat.gcd p q = Nat.gcd a.natAbs b.natAbs ∧ ∃ n, wr = w.drewN n) (fun _ y _ => (intOf y).toNat)
 case atStart => exact ⟨_, _, rfl, rfl, hxa, hxb, rfl, 0, rfl⟩
 case round =>
  obtain ⟨p, q, rfl, rfl, hp, hq, hg, n, rfl⟩ := hrel
  have HG := hH hg; clear hg
  by_cases h0 : 0 < q
  ·have h0' : (q : Int) ≠ 0 := by omega
   go_wp2
   go_quiet (fail)
   go_wp2
   go_roundw
   case rel => exact ⟨q, p % q, rfl, by go_num, hq, by have := Nat.mod_lt p h0; omega, by rw [← gcd_step, HG.out], _, World.drewN_drewN _ _ _⟩
   case measure => have := Nat.mod_lt p h0; simp [intOf]; omega
  ·obtain rfl : q = 0 := by omega
   have hz : gcdZ a b = p := by unfold gcdZ; rw [← HG.out]; simp
   by_cases hb : p ≤ 9223372036854775807
   ·have HZ : Hid (Ok64 (gcdZ a b) ∧ gcdZ a b = p) := ⟨by unfold Ok64; omega, hz⟩
    clear hz
    go_wp2
    go_ret2
    exact ⟨ret2 (by rw [fitV_yes HZ.out.1, HZ.out.2]) (fitE_yes HZ.out.1).symm, _, rfl⟩
   ·have HZ : Hid (¬ Ok64 (gcdZ a b)) := by show ¬ _; unfold Ok64; omega
    clear hz
    go_wp2
    go_ret2
    exact ⟨ret2 (fitV_no HZ.out).symm (fitE_no HZ.out).symm, _, rfl⟩
end Go.Proofs.YtgobbecpnjelmaaGreat

namespace Go.Proofs.YtgobbecpnjelmaaGreat

def T128 : Nat := 340282366920938463463374607431768211456

/-- A number of 128 bits, as Go holds it. -/
def WV (n : Nat) : Value := .agg #[.int .u64 ((n / 18446744073709551616 : Nat) : Int), .int .u64 ((n % 18446744073709551616 : Nat) : Int)]

theorem wv_ex {n : Nat} (hn : n < T128) : ∃ h l : Nat, (h : Int) ≤ 18446744073709551615 ∧ (l : Int) ≤ 18446744073709551615 ∧ n = h * 18446744073709551616 + l ∧ WV n = .agg #[.int .u64 (h : Int), .int .u64 (l : Int)] := by
 unfold T128 at hn
 refine ⟨n / 18446744073709551616, n % 18446744073709551616, by omega, by omega, by omega, rfl⟩

/-- How two numbers lie. -/
def cmpN (m n : Nat) : Int := if m < n then -1 else if n < m then 1 else 0

end Go.Proofs.YtgobbecpnjelmaaGreat

namespace Go.Proofs.YtgobbecpnjelmaaGreat.DivM

/-- What holds of a digit that is guessed, and of what it leaves: the guess is not below the true digit. -/
structure Guess (U d y1 y0 q r : Nat) : Prop where
 sum : q * y1 + r = U
 low : (U * 4294967296 + d) / (y1 * 4294967296 + y0) ≤ q
 top : q ≤ 4294967296 + 1

end Go.Proofs.YtgobbecpnjelmaaGreat.DivM

namespace Go.Proofs.YtgobbecpnjelmaaGreat
open Go.RowKit DivM

structure Setup (hi lo y s v y1 y0 h' l' U L d1 d0 : Nat) : Prop where
 ev : IntKind.u64.wrap ((y : Int) * 2 ^ s) = (v : Int)
 ey1 : (v : Int) / 4294967296 = (y1 : Int)
 ey0 : bits .and .u64 (v : Int) 4294967295 = (y0 : Int)
 eh : IntKind.u64.wrap ((hi : Int) * 2 ^ s) = (h' : Int)
 el : (lo : Int) / 2 ^ (64 - s) = (l' : Int)
 eU : bits .or .u64 (h' : Int) (l' : Int) = (U : Int)
 eL : IntKind.u64.wrap ((lo : Int) * 2 ^ s) = (L : Int)
 ed1 : (L : Int) / 4294967296 = (d1 : Int)
 ed0 : bits .and .u64 (L : Int) 4294967295 = (d0 : Int)
 vv : v = y1 * 4294967296 + y0
 y0lt : y0 < 4294967296
 y1lo : 2147483648 ≤ y1
 y1lt : y1 < 4294967296
 Ult : U < v
 d1lt : d1 < 4294967296
 d0lt : d0 < 4294967296
 vy : v = y * 2 ^ s
 uu : (hi * 18446744073709551616 + lo) * 2 ^ s = (U * 4294967296 + d1) * 4294967296 + d0

end Go.Proofs.YtgobbecpnjelmaaGreat

namespace Go.Proofs.YtgobbecpnjelmaaGreat
open Go.RowKit

set_option maxRecDepth 100000 in
theorem wMul_any (x y : Nat) (w : World) (hx : (x : Int) ≤ 18446744073709551615) (hy : (y : Int) ≤ 18446744073709551615) :
  Calls Tryz.prog 148 #[.int .u64 x, .int .u64 y] w fun e w' => e = .returned (WV (x * y)) ∧ Below w.heap.size w w' := by
 have hm := fun W => Tryz.bits_Mul64 x y (by omega) (by omega) W
 unfold WV
 obtain ⟨h, hh⟩ : ∃ h, x * y / 18446744073709551616 = h := ⟨_, rfl⟩
 obtain ⟨l, hl⟩ : ∃ l, x * y % 18446744073709551616 = l := ⟨_, rfl⟩
 rw [hh, hl] at hm ⊢
 have HM := hH hm
 clear hm hh hl
 go_enter Tryz.func148, Tryz.ntmps148
 go_wp2_with (go_at_call 156; refine (HM.out _).mono ?_; rintro e w1 ⟨rfl, rfl⟩)
 refine bodyPost_ret (v := .agg #[.int .u64 h, .int .u64 l]) (by simp [results, Tryz.results148, go_sem]) rfl ⟨rfl, ?_⟩
 (repeat (first | with_reducible exact Below.refl _ _ | with_reducible refine Bs ?_ | with_reducible refine Ba ?_ | with_reducible refine Bd ?_ | with_reducible refine Bn ?_))

theorem cmp64_any (x y : Int) (w : World) : Calls Tryz.prog 155 #[.int .u64 x, .int .u64 y] w fun e w' => e = .returned (.int .i64 (if x < y then -1 else if y < x then 1 else 0)) ∧ w = w' := by
 by_cases h1 : x < y
 ·rw [if_pos h1]
  go_enter Tryz.func155, Tryz.ntmps155
  go_wp2
  go_ret
  exact ⟨rfl, rfl⟩
 ·rw [if_neg h1]
  by_cases h2 : y < x
  ·rw [if_pos h2]
   go_enter Tryz.func155, Tryz.ntmps155
   go_wp2
   go_ret
   exact ⟨rfl, rfl⟩
  ·rw [if_neg h2]
   go_enter Tryz.func155, Tryz.ntmps155
   go_wp2
   go_ret
   exact ⟨rfl, rfl⟩

theorem cmp_hi {ah al bh bl : Nat} (h2 : (al : Int) ≤ 18446744073709551615) (h4 : (bl : Int) ≤ 18446744073709551615) (h : ah ≠ bh) : cmpN (ah * 18446744073709551616 + al) (bh * 18446744073709551616 + bl) = if (ah : Int) < bh then -1 else if (bh : Int) < ah then 1 else 0 := by
 unfold cmpN
 repeat' split
 all_goals omega

theorem cmp_lo {ah al bl : Nat} : cmpN (ah * 18446744073709551616 + al) (ah * 18446744073709551616 + bl) = if (al : Int) < bl then -1 else if (bl : Int) < al then 1 else 0 := by
 unfold cmpN
 repeat' split
 all_goals omega

set_option maxRecDepth 100000 in
set_option maxHeartbeats 800000 in
theorem wCmp_any (m n : Nat) (w : World) (hm : m < T128) (hn : n < T128) :
  Calls Tryz.prog 147 #[WV m, WV n] w fun e w' => e = .returned (.int .i64 (cmpN m n)) ∧ Below w.heap.size w w' := by
 obtain ⟨ah, al, h1, h2, rfl, e1⟩ := wv_ex hm
 obtain ⟨bh, bl, h3, h4, rfl, e2⟩ := wv_ex hn
 rw [e1, e2]
 by_cases he : ah = bh
 ·subst he
  rw [cmp_lo]
  have hq : ((ah : Int) != ah) = false := by simp
  have HC := hH (fun W => cmp64_any al bl W)
  generalize (if (al : Int) < bl then (-1 : Int) else if (bl : Int) < al then 1 else 0) = r at *
  clear hm hn e1 e2
  go_enter Tryz.func147, Tryz.ntmps147
  go_wp2_with fail
  refine (HC.out _).mono ?_
  rintro e w1 ⟨rfl, rfl⟩
  go_wp2
  go_ret
  exact ⟨rfl, bw⟩
 ·rw [cmp_hi h2 h4 he]
  have hq : ((ah : Int) != bh) = true := by simp; omega
  have HC := hH (fun W => cmp64_any ah bh W)
  generalize (if (ah : Int) < bh then (-1 : Int) else if (bh : Int) < ah then 1 else 0) = r at *
  clear hm hn e1 e2
  go_enter Tryz.func147, Tryz.ntmps147
  go_wp2_with fail
  refine (HC.out _).mono ?_
  rintro e w1 ⟨rfl, rfl⟩
  go_wp2
  go_ret
  exact ⟨rfl, bw⟩
end Go.Proofs.YtgobbecpnjelmaaGreat

namespace Go.Proofs.YtgobbecpnjelmaaGreat
open Go.RowKit

end Go.Proofs.YtgobbecpnjelmaaGreat

namespace Go.Proofs.YtgobbecpnjelmaaGreat
open Go.RowKit

theorem wsize_any (a : Int) (w : World) (h : Ok64 a) : Calls Tryz.prog 149 #[.int .i64 a] w fun e w' => e = .returned (.int .u64 (a.natAbs : Int)) ∧ w = w' := by
 unfold Ok64 at h
 by_cases hn : a < 0
 ·have hw : IntKind.u64.wrap (-IntKind.u64.wrap a) = (a.natAbs : Int) := by simp only [IntKind.wrap_u64]; omega
  go_enter Tryz.func149, Tryz.ntmps149
  go_wp2
  go_ret
  exact ⟨rfl, rfl⟩
 ·have hw : IntKind.u64.wrap a = (a.natAbs : Int) := by simp only [IntKind.wrap_u64]; omega
  go_enter Tryz.func149, Tryz.ntmps149
  go_wp2
  go_ret
  exact ⟨ret_int (by omega), rfl⟩

def sgn (a : Int) : Int := if a < 0 then -1 else if 0 < a then 1 else 0

theorem cmpi_any (x y : Int) (w : World) : Calls Tryz.prog 146 #[.int .i64 x, .int .i64 y] w fun e w' => e = .returned (.int .i64 (if x < y then -1 else if y < x then 1 else 0)) ∧ w = w' := by
 by_cases h1 : x < y
 ·rw [if_pos h1]
  go_enter Tryz.func146, Tryz.ntmps146
  go_wp2
  go_ret
  exact ⟨rfl, rfl⟩
 ·rw [if_neg h1]
  by_cases h2 : y < x
  ·rw [if_pos h2]
   go_enter Tryz.func146, Tryz.ntmps146
   go_wp2
   go_ret
   exact ⟨rfl, rfl⟩
  ·rw [if_neg h2]
   go_enter Tryz.func146, Tryz.ntmps146
   go_wp2
   go_ret
   exact ⟨rfl, rfl⟩

theorem sgn_bd (a : Int) : -1 ≤ sgn a ∧ sgn a ≤ 1 := by unfold sgn; repeat' split <;> omega

theorem wsign_any (a b : Int) (w : World) : Calls Tryz.prog 145 #[.int .i64 a, .int .i64 b] w fun e w' => e = .returned (.int .i64 (sgn a * sgn b)) ∧ w = w' := by
 have h1 := fun x W => cmpi_any x 0 W
 have ea : (if a < 0 then (-1 : Int) else if 0 < a then 1 else 0) = sgn a := rfl
 have eb : (if b < 0 then (-1 : Int) else if 0 < b then 1 else 0) = sgn b := rfl
 have ha := h1 a; have hb := h1 b
 rw [ea] at ha; rw [eb] at hb
 have b1 := sgn_bd a; have b2 := sgn_bd b
 generalize sgn a = x at *
 generalize sgn b = y at *
 have hw : wrap64 (x * y) = x * y := by
  have : x = -1 ∨ x = 0 ∨ x = 1 := by omega
  rcases this with rfl | rfl | rfl <;> exact IntWalk.wrap64_in _ (by omega)
 have HA := hH ha; have HB := hH hb; have HW := hH hw
 clear h1 ha hb ea eb hw
 go_enter Tryz.func145, Tryz.ntmps145
 go_wp2_with fail
 refine (HA.out _).mono ?_
 rintro e w1 ⟨rfl, rfl⟩
 go_wp2_with fail
 refine (HB.out _).mono ?_
 rintro e w1 ⟨rfl, rfl⟩
 go_wp2
 go_ret
 exact ⟨ret_int HW.out, rfl⟩

/-- How two products lie. -/
def prodsI (a b c d : Int) : Int := sgn (a * b - c * d)

theorem sgn_mul (a b : Int) : sgn (a * b) = sgn a * sgn b := by
 unfold sgn
 rcases Int.lt_trichotomy a 0 with h1 | h1 | h1 <;> rcases Int.lt_trichotomy b 0 with h2 | h2 | h2
 ·have := Int.mul_pos_of_neg_of_neg h1 h2
  rw [if_neg (show ¬ a * b < 0 by omega), if_pos this, if_pos h1, if_pos h2]; rfl
 ·subst h2; simp
 ·have := Int.mul_neg_of_neg_of_pos h1 h2
  rw [if_pos this, if_pos h1, if_neg (show ¬ b < 0 by omega), if_pos h2]; rfl
 ·subst h1; simp
 ·subst h1; simp
 ·subst h1; simp
 ·have := Int.mul_neg_of_pos_of_neg h1 h2
  rw [if_pos this, if_neg (show ¬ a < 0 by omega), if_pos h1, if_pos h2]; rfl
 ·subst h2; simp
 ·have := Int.mul_pos h1 h2
  rw [if_neg (show ¬ a * b < 0 by omega), if_pos this, if_neg (show ¬ a < 0 by omega), if_pos h1, if_neg (show ¬ b < 0 by omega), if_pos h2]; rfl

theorem sgn_diff (x y : Int) (h : sgn x ≠ sgn y) : sgn (x - y) = if sgn x < sgn y then -1 else if sgn y < sgn x then 1 else 0 := by
 unfold sgn at *
 repeat' split at h
 all_goals (repeat' split) <;> omega

theorem sgn_same (x y : Int) (h : sgn x = sgn y) : sgn (x - y) = sgn x * cmpN x.natAbs y.natAbs := by
 unfold sgn cmpN at *
 repeat' split at h
 all_goals (repeat' split) <;> omega

set_option maxRecDepth 100000 in
set_option maxHeartbeats 1000000 in
theorem wProds_any (a b c d : Int) (w : World) (ha : Ok64 a) (hb : Ok64 b) (hc : Ok64 c) (hd : Ok64 d) :
  Calls Tryz.prog 137 #[.int .i64 a, .int .i64 b, .int .i64 c, .int .i64 d] w fun e w' => e = .returned (.int .i64 (prodsI a b c d)) ∧ Below w.heap.size w w' := by
 have hs := fun W => wsign_any a b W
 have ht := fun W => wsign_any c d W
 rw [← sgn_mul] at hs ht
 have hsz : ∀ x, Ok64 x → ((x.natAbs : Nat) : Int) ≤ 18446744073709551615 := fun x h => by unfold Ok64 at h; omega
 have ka := hsz a ha; have kb := hsz b hb; have kc := hsz c hc; have kd := hsz d hd
 have g1 := fun W => wsize_any a W ha; have g2 := fun W => wsize_any b W hb; have g3 := fun W => wsize_any c W hc; have g4 := fun W => wsize_any d W hd
 have hm1 : (a * b).natAbs = a.natAbs * b.natAbs := Int.natAbs_mul a b
 have hm2 : (c * d).natAbs = c.natAbs * d.natAbs := Int.natAbs_mul c d
 have t1 : ∀ {x y : Nat}, (x : Int) ≤ 18446744073709551615 → (y : Int) ≤ 18446744073709551615 → x * y < T128 := fun {x y} h1 h2 => by
  unfold T128
  exact Nat.lt_of_le_of_lt (Nat.mul_le_mul (show x ≤ 18446744073709551615 by omega) (show y ≤ 18446744073709551615 by omega)) (by decide)
 have hq := fun W => wCmp_any (a.natAbs * b.natAbs) (c.natAbs * d.natAbs) W (t1 ka kb) (t1 kc kd)
 have e1 := sgn_diff (a * b) (c * d)
 have e2 := sgn_same (a * b) (c * d)
 rw [hm1, hm2] at e2
 have b1 := sgn_bd (a * b); have b2 := sgn_bd (c * d)
 unfold prodsI
 have b3 : -1 ≤ cmpN (a.natAbs * b.natAbs) (c.natAbs * d.natAbs) ∧ cmpN (a.natAbs * b.natAbs) (c.natAbs * d.natAbs) ≤ 1 := by unfold cmpN; repeat' split <;> omega
 generalize sgn (a * b) = x at *
 generalize sgn (c * d) = y at *
 generalize sgn (a * b - c * d) = z at *
 have m1 := fun W => wMul_any a.natAbs b.natAbs W ka kb
 have m2 := fun W => wMul_any c.natAbs d.natAbs W kc kd
 generalize cmpN (a.natAbs * b.natAbs) (c.natAbs * d.natAbs) = r at *
 have HS := hH hs; have HT := hH ht; have G1 := hH g1; have G2 := hH g2; have G3 := hH g3; have G4 := hH g4; have HQ := hH hq; have M1 := hH m1; have M2 := hH m2
 clear hs ht g1 g2 g3 g4 hq m1 m2 ka kb kc kd t1 hsz hm1 hm2 ha hb hc hd
 by_cases hxy : x = y
 ·have hz := e2 hxy
  have hq : (x != y) = false := by simp [hxy]
  have hw : wrap64 (x * r) = x * r := by
   have : x = -1 ∨ x = 0 ∨ x = 1 := by omega
   rcases this with h | h | h <;> rw [h] <;> exact IntWalk.wrap64_in _ (by omega)
  have HZ := hH hz; have HXY := hH hxy; have HW := hH hw
  clear e1 e2 hz hxy hw
  go_enter Tryz.func137, Tryz.ntmps137
  go_wp2_with fail
  refine (HS.out _).mono ?_
  rintro e w1 ⟨rfl, rfl⟩
  go_wp2_with fail
  refine (HT.out _).mono ?_
  rintro e w1 ⟨rfl, rfl⟩
  go_wp2_with fail
  refine (G1.out _).mono ?_
  rintro e w1 ⟨rfl, rfl⟩
  go_wp2_with fail
  refine (G2.out _).mono ?_
  rintro e w1 ⟨rfl, rfl⟩
  go_wp2_with fail
  refine (M1.out _).mono ?_
  rintro e w1 ⟨rfl, b1⟩
  have B1 := hH b1
  clear b1
  go_wp2_with fail
  refine (G3.out _).mono ?_
  rintro e w2 ⟨rfl, rfl⟩
  go_wp2_with fail
  refine (G4.out _).mono ?_
  rintro e w2 ⟨rfl, rfl⟩
  go_wp2_with fail
  refine (M2.out _).mono ?_
  rintro e w2 ⟨rfl, b2⟩
  have B2 := hH (B1.out.trans (b2.mono B1.out.size))
  clear b2
  go_wp2_with fail
  refine (HQ.out _).mono ?_
  rintro e w3 ⟨rfl, b3⟩
  have B3 := hH (B2.out.trans (b3.mono B2.out.size))
  clear b3
  go_wp2
  go_ret
  exact ⟨ret_int (HW.out.trans HZ.out.symm), B3.out⟩
 ·have hz := e1 hxy
  have hq : (x != y) = true := by simpa using hxy
  have hcp := fun W => cmpi_any x y W
  rw [← hz] at hcp
  have HC := hH hcp
  clear e1 e2 hz hxy hcp
  go_enter Tryz.func137, Tryz.ntmps137
  go_wp2_with fail
  refine (HS.out _).mono ?_
  rintro e w1 ⟨rfl, rfl⟩
  go_wp2_with fail
  refine (HT.out _).mono ?_
  rintro e w1 ⟨rfl, rfl⟩
  go_wp2_with fail
  refine (HC.out _).mono ?_
  rintro e w1 ⟨rfl, rfl⟩
  go_wp2
  go_ret
  exact ⟨rfl, Below.refl _ _⟩
end Go.Proofs.YtgobbecpnjelmaaGreat

namespace Go.Proofs.YtgobbecpnjelmaaGreat
open Go.RowKit

/-- A right score. -/
def scoreB (s : Int × Int) : Bool := decide ((1 ≤ s.2 ∧ s.2 ≤ 16) ∧ (0 ≤ s.1 ∧ s.1 ≤ 274877906944) ∧ gcdZ s.1 s.2 = 1)

theorem scoreB_is {s : Int × Int} : scoreB s = true ↔ (1 ≤ s.2 ∧ s.2 ≤ 16) ∧ (0 ≤ s.1 ∧ s.1 ≤ 274877906944) ∧ gcdZ s.1 s.2 = 1 := by
 unfold scoreB
 exact decide_eq_true_iff

/-- How two right ones lie. -/
def oddI (a b : Int × Int) : Int := if a.1 * b.2 < b.1 * a.2 then 1 else if b.1 * a.2 < a.1 * b.2 then -1 else 0

theorem prods_odd (a b : Int × Int) : prodsI b.1 a.2 a.1 b.2 = oddI a b := by
 unfold prodsI oddI sgn
 split <;> split <;> (try split) <;> omega

/-- Behind those that are not odder. -/
def cutAt (x : Int × Int) : List (Int × Int) → Nat
 | [] => 0
 | y :: l => if oddI y x ≤ 0 then cutAt x l + 1 else 0

def indexBad (n part whole : Int) : Prop := n < 1 ∨ 4096 < n ∨ whole < 2 ∨ 1000 < whole ∨ part < 1 ∨ whole ≤ part

instance (n part whole : Int) : Decidable (indexBad n part whole) := by unfold indexBad; infer_instance

end Go.Proofs.YtgobbecpnjelmaaGreat

namespace Go.Proofs.YtgobbecpnjelmaaGreat
open Go.RowKit

theorem fresh_nil (B n c : Nat) : Fresh B (.slice none n c) := fun a n c e _ => by cases e

end Go.Proofs.YtgobbecpnjelmaaGreat

namespace Go.Proofs.YtgobbecpnjelmaaGreat
open Go.RowKit

set_option maxHeartbeats 400000 in
theorem same_any (va vb : Value) (la lb : List Int) (w : World) (ha : Ints .i64 w va la) (hb : Ints .i64 w vb lb) :
  Calls Tryz.prog 16 #[va, vb] w fun e w' => e = .returned (.bool (decide (la = lb))) ∧ ∃ n, w' = w.drewN n := by
 obtain ⟨a, c, rfl, _, _, h3, ha⟩ := ha
 obtain ⟨b, d, rfl, _, _, h3', hb⟩ := hb
 have HA := hH ha; clear ha
 have HB := hH hb; clear hb
 obtain ⟨m, hm⟩ : ∃ m, lb.length = m := ⟨_, rfl⟩
 rw [hm] at h3' ⊢
 have HM := hH hm; clear hm
 by_cases hl : la.length = m
 ·obtain rfl := hl
  have hb : ((la.length : Int) != la.length) = false := by simp
  go_enter Tryz.func16, Tryz.ntmps16
  go_wp2
  go_loopw [5] (fun i wr => ∃ k : Nat, k ≤ la.length ∧ i = .int .i64 k ∧ (la.take k = lb.take k) ∧ ∃ n, wr = w.drewN n) (fun i _ => la.length - (intOf i).toNat)
  case atStart => exact ⟨0, Nat.zero_le _, rfl, rfl, 0, rfl⟩
  case round =>
   obtain ⟨k, hk, rfl, hpre, n, rfl⟩ := hrel
   have HP := hH hpre; clear hpre
   by_cases hlt : k < la.length
   ·obtain ⟨x, hx⟩ := getElem?_ex hlt
    obtain ⟨y, hy⟩ := getElem?_ex (l := lb) (k := k) (by rw [HM.out]; exact hlt)
    obtain ⟨b1, o1, rfl, hb1, hc1⟩ := HA.out k x hx
    obtain ⟨b2, o2, rfl, hb2, hc2⟩ := HB.out k y hy
    have HX := hH hx; clear hx
    have HY := hH hy; clear hy
    go_wp2
    go_quiet (fail)
    go_wp2
    ·go_ret
     have hne : (x != y) = true := by assumption
     refine ⟨ret_bool ?_, _, World.drewN_drewN _ _ _⟩
     symm; rw [decide_eq_false_iff_not]; rintro rfl
     have := HX.out.symm.trans HY.out
     simp_all
    ·have hne : (x != y) = false := by assumption
     have : x = y := by simpa using hne
     subst this
     go_roundw
     case rel => exact ⟨k + 1, by omega, by go_num, take_step HX.out HY.out HP.out, _, rfl⟩
     case measure => simp [intOf] <;> omega
   ·go_wp2
    go_ret
    refine ⟨ret_bool ?_, _, rfl⟩
    have hp := HP.out
    rw [List.take_of_length_le (by omega), List.take_of_length_le (by rw [HM.out]; omega)] at hp
    simp [hp]
 ·have hb : ((la.length : Int) != m) = true := by simp; omega
  go_enter Tryz.func16, Tryz.ntmps16
  go_wp2
  go_ret
  refine ⟨ret_bool ?_, 0, rfl⟩
  symm; rw [decide_eq_false_iff_not]; rintro rfl
  exact hl HM.out
end Go.Proofs.YtgobbecpnjelmaaGreat
