/-
  Base: Words and small laws for all walks of this seat: slices that read as integers, appending one element to a slice of the call's own.
  Kit: Small laws that all walks share: results, bounds, readings behind draws, append of a whole list.
  RowM: Rows of the call's own: their cells, overwritten, copied, cut and grown.
  NumA: Walks of package num: the functions on numbers alone.
  NumB: Walks of package num: quotients, products, the greatest divisor.
  NumC: Walks of package num: products and the greatest divisor.
  WideMath: Numbers of 128 bits, in plain Lean.
  DivMath: Plain laws: a long division of two words by one, digit by digit.
  Div64: The walk of math/bits.Div64.
  WideA: Walks of package wide: sums, differences, order, products, quotients.
  WideB: Walks of package wide: quotients, roots.
  WideC: Walks of package wide: how products lie.
  QuantP: Plain laws of layers 13 and 19: scores, their order, the line.
  PairM: Slices of pairs of integers (scores, ratios): how they lie; append of a whole one.
  Digs: Plain laws on digits of base 65536.
  Same01: Walk of copseref01.Same: whether two lists of integers are the same.
  RefBig: Walks of copseref01's large numbers.
  Digs2: More plain laws on digits: differences, products, order.
  RefBig2: Walks of copseref01's large numbers, continued: differences, order.
  RefWhole: Walks of copseref01's whole numbers with a sign.
  RefTimes: Walks of copseref01: products.
  RefFits: Walks of copseref01: whole numbers back to numbers; sums, differences, products.
  RefTurn: Walks of copseref01: whole numbers turned, and multiplied.
  RefCalc: Walks of copseref01: sums, differences, products of numbers.
-/
import Derived.Test.YtjmjnkilgoelbaaRows
import Derived.WalkKit
import Derived.WalkSpells
import Derived.WalkLawsBesides
import Derived.Deep.QuietTactic
import Derived.BigQuiet
import Derived.Lib.Hide
import Derived.Deep.DeepMust
import Derived.Deep.RegionHeld3
import Derived.Deep.DeepFit
import Derived.Outline
import Derived.Deep.DrawnRows
import Derived.Deep.Draws
import Derived.Maps.AppendAt
import Derived.Lib.Overlaps
import Derived.Laws.Externs
import Derived.Laws.IdiomCopy
import Derived.Lib.AppendZeros
import Derived.Deep.AppendSrc
import Derived.Test.YtjmjnkilgoelbaaShelf
import Derived.Deep.DeepCutAuto
import Derived.Deep.CutBlock
import Derived.Lib.ItoaNum
import Derived.Laws.Bits64b
namespace Go.Proofs.Ytjmjnkilgoelbaa
open Go.RowKit

/-- v is a slice whose elements are the integers l. -/
def Ints (k : IntKind) (w : World) (v : Value) (l : List Int) : Prop :=
  ∃ a c, v = .slice a l.length c ∧ l.length ≤ c ∧ c ≤ 9223372036854775807 ∧ l.length ≤ 140737488351232 ∧
    ∀ (i : Nat) (x : Int), l[i]? = some x → ∃ b o, a = some ⟨b, o, none⟩ ∧ b < w.heap.size ∧ w.cell? ⟨b, o + i, none⟩ = some (.int k x)

theorem Ints.shape {k : IntKind} {w : World} {v : Value} {l : List Int} (h : Ints k w v l) : ∃ a c, v = .slice a l.length c := by
  obtain ⟨a, c, e, _⟩ := h; exact ⟨a, c, e⟩

/-- v lies from block B on (or holds nothing). -/
def Fresh (B : Nat) (v : Value) : Prop := ∀ a n c, v = .slice (some a) n c → n ≠ 0 → B ≤ a.block
theorem Fresh.zero (v : Value) : Fresh 0 v := fun _ _ _ _ _ => Nat.zero_le _
theorem Fresh.mono {B B' : Nat} {v : Value} (h : Fresh B v) (hb : B' ≤ B) : Fresh B' v := fun a n c e h0 => Nat.le_trans hb (h a n c e h0)
theorem Fresh.own {w : World} {base e size n : Nat} {v : Value} {xs : List Value} (h : w.ownsRow base e size v n xs) : Fresh base v := fun a n c e _ =>
  (h.lt a.block (by rw [e]; rfl)).1
theorem Fresh.cut {B k n c : Nat} {a : Option Addr} (h : Fresh B (.slice a n c)) (hk : k ≤ n) : Fresh B (.slice a k c) := fun a' n' c' e h0 => by
  injection e with e1 e2 e3
  subst e1 e2 e3
  exact h _ _ _ rfl (by omega)

theorem Ints.setCell {k : IntKind} {w : World} {v : Value} {l : List Int} {B : Nat} {A : Addr} (h : Ints k w v l) (hf : Fresh B v) (hA : A.block < B) (u : Value) : Ints k (w.setCell A u) v l := by
  obtain ⟨a, c, rfl, h1, h2, h3, h⟩ := h
  refine ⟨a, c, rfl, h1, h2, h3, fun i x hi => ?_⟩
  obtain ⟨b, o, e, hlt, hc⟩ := h i x hi
  refine ⟨b, o, e, by simpa [World.setCell] using hlt, ?_⟩
  have hb : B ≤ b := hf ⟨b, o, none⟩ l.length c (by rw [e]) (by have := (List.getElem?_eq_some_iff.1 hi).1; omega)
  exact (World.cell?_of_block (w := w) (a := ⟨b, o + i, none⟩) (Below.heap_setCell _ _ _ _ (show b ≠ A.block by omega))).trans hc

theorem Ints.below {k : IntKind} {w w' : World} {v : Value} {l : List Int} (h : Ints k w v l) (hb : Below w.heap.size w w') : Ints k w' v l := by
  obtain ⟨a, c, rfl, h1, h2, h3, h⟩ := h
  refine ⟨a, c, rfl, h1, h2, h3, fun i x hi => ?_⟩
  obtain ⟨b, o, e, hlt, hc⟩ := h i x hi
  exact ⟨b, o, e, Nat.lt_of_lt_of_le hlt hb.size, (hb.cell (p := ⟨b, o + i, none⟩) hlt).trans hc⟩

/-- What the call built itself reads as a slice of integers. -/
theorem Ints.own {k : IntKind} {w : World} {base e n : Nat} {v : Value} {l : List Int} (h : w.ownsRow base e 1 v n (l.map (Value.int k))) (hl : l.length ≤ 140737488351232) : n = l.length ∧ Ints k w v l := by
  have hlen : l.length = n := by simpa using h.1
  refine ⟨hlen.symm, ?_⟩
  subst hlen
  rcases h.2 with ⟨rfl, h0⟩ | ⟨g, cap, cur, rfl, hb, hg, h1, h2, h3, h4⟩
  · have : l = [] := List.eq_nil_of_length_eq_zero h0
    subst this
    exact ⟨none, 0, rfl, by simp, by omega, by simp, fun i x hi => by simp at hi⟩
  · refine ⟨_, _, rfl, h1, by simpa [maxLen] using h2, hl, fun i x hi => ⟨g, 0, rfl, (Array.getElem?_eq_some_iff.1 hg).1, ?_⟩⟩
    have hi' : (l.map (Value.int k))[i]? = some (.int k x) := by simp [hi]
    have := World.ownsRow.cells h (g := g) rfl i _ hi'
    have hadd : (⟨g, 0, none⟩ : Addr).add i = ⟨g, 0 + i, none⟩ := by unfold Addr.add; split <;> simp_all
    rwa [hadd] at this


/-- What the table says of an element type: its zero, its cells, its bytes. -/
def EI (P : Program) (e : TypeId) (z : Value) (size bytes : Nat) : Prop :=
  ∃ i, P.info? e = some i ∧ i.zero = some z ∧ i.size = size ∧ i.bytes = bytes ∧ z.cells.size = size ∧ 0 < size ∧ 0 < bytes

theorem EI.of {P : Program} {e : TypeId} {z : Value} {size bytes : Nat} (h : (P.info? e).map (fun i => (i.zero, i.size, i.bytes)) = some (some z, size, bytes)) (h1 : z.cells.size = size) (h2 : 0 < size) (h3 : 0 < bytes) : EI P e z size bytes := by
  obtain ⟨i, a, b, c, d⟩ := info_parts h
  exact ⟨i, a, b, c, d, h1, h2, h3⟩

/-- One element is appended to a slice of the call's own: it lies in the block laid last. -/
theorem app1 {P : Program} {ops : Array Oper} {rest : List Oper} {o : Oper} {a : Act} {Q : Exit → Act → World → Prop} (hgd : o.guard = none) (s x : Operand) (t : TypeId)
    (ho : o.op = .call { callee := .builtin .append, args := #[s, x], argTypes := #[t, t] })
    {e : TypeId} {z : Value} {size bytes : Nat} (ht : P.underlying t = some (.slice e)) (hE : EI P e z size bytes)
    (base : Nat) {v : Value} {n : Nat} {xs : List Value} {W : World} {cs : Array Value} {T : TypeId} {C : Nat} (hs : a.eval s = v) (hown : W.ownsRow base e size v n xs)
    (hx : a.eval x = .slice (some ⟨W.heap.size, 0, none⟩) 1 C) (hcs : cs.size = size) (h1 : ∀ u ∈ cs.toList, u.oneCell' = true)
    (hbytes : (n + 1) * bytes ≤ 140737488355328) (hbase : base ≤ W.heap.size)
    (h : ∀ v' w', w'.ownsRow base e size v' (n + 1) (xs ++ cs.toList) → Below base W w' → W.grownBy w' v.ownBlock → wpList P ops Q rest (a.put o.dst v') w') :
    wpList P ops Q (o :: rest) a (W.alloc (.cells cs T)) := by
  obtain ⟨i, hi, hz, hsize, hby, hzs, hsz, hbp⟩ := hE
  have h63 : n + 1 ≤ 140737488355328 := Nat.le_trans (Nat.le_mul_of_pos_right _ hbp) hbytes
  refine wpList_append_own _ hgd s x t ho base e i z size bytes ht hi hz hsize hby hzs hsz v n xs hs (hown.alloc _) ⟨W.heap.size, 0, none⟩ 1 C cs.toList hx (by simp [hcs]) ?_ h1 (by unfold maxLen; omega) hbytes (by simp; omega) ?_
  · intro j u hu
    have hadd : (⟨W.heap.size, 0, none⟩ : Addr).add j = ⟨W.heap.size, j, none⟩ := by unfold Addr.add; split <;> simp_all
    rw [hadd]
    have hb := heap_alloc_new W (.cells cs T)
    simp only [World.cell?, hb]
    simpa using hu
  · intro v' w' hown' hg _
    refine h v' w' hown' ?_ ?_
    · exact ((Below.refl _ _).alloc hbase _).grown hg (by simp; omega) fun k hk => (hown.lt k hk).1
    · exact ⟨hg.os, hg.tape, hg.output, by have := hg.size; simp at this; omega, fun k hk hne => (hg.block k (by simp; omega) hne).trans (Below.heap_alloc W _ k hk)⟩

theorem Ints.take {kd : IntKind} {w : World} {a : Option Addr} {c k n : Nat} {l : List Int} (h : Ints kd w (.slice a n c) l) (hk : k ≤ l.length) : n = l.length ∧ Ints kd w (.slice a k c) (l.take k) := by
  obtain ⟨a', c', e, h1, h2, h3, h⟩ := h
  injection e with e1 e2 e3
  subst e1 e2 e3
  have hl : (l.take k).length = k := by simp; omega
  refine ⟨rfl, a, c, by rw [hl], by omega, h2, by omega, fun i x hi => h i x ?_⟩
  rw [List.getElem?_take] at hi
  split at hi
  · exact hi
  · cases hi

/-- Behind a call that makes memory: all old cells and marks read as before. -/
theorem bcell {W w1 : World} (hb : Below W.heap.size W w1) : (∀ b o, b < W.heap.size → w1.cell? ⟨b, o, none⟩ = W.cell? ⟨b, o, none⟩) ∧ (∀ b o, b < W.heap.size → w1.frozen? ⟨b, o, none⟩ = W.frozen? ⟨b, o, none⟩) :=
  ⟨fun b o h => hb.cell (p := ⟨b, o, none⟩) h, fun b o h => hb.frozen (p := ⟨b, o, none⟩) h⟩

theorem getElem?_ex {α : Type} {l : List α} {k : Nat} (h : k < l.length) : ∃ x, l[k]? = some x := ⟨_, List.getElem?_eq_getElem h⟩

theorem take_snoc' {α : Type} {l : List α} {k : Nat} {x : α} (h : l[k]? = some x) : l.take (k + 1) = l.take k ++ [x] := by
  rw [List.take_add_one, h]; rfl

theorem take_step {la lb : List Int} {k : Nat} {x : Int} (ha : la[k]? = some x) (hb : lb[k]? = some x) (h : la.take k = lb.take k) : la.take (k + 1) = lb.take (k + 1) := by
  rw [take_snoc' ha, take_snoc' hb, h]

theorem ret_bool {a b : Bool} (h : a = b) : Ending.returned (.bool a) = .returned (.bool b) := by rw [h]
theorem ret_int {k : IntKind} {a b : Int} (h : a = b) : Ending.returned (.int k a) = .returned (.int k b) := by rw [h]

theorem mkfull {P : Program} {w : World} {ops : Array Oper} {rest : List Oper} {o : Oper} {a : Act} {Q : Exit → Act → World → Prop}
    (hg : o.guard = none) (l c : Operand) (t : TypeId) (hop : o.op = Op.makeSlice t l c) {e : TypeId} {z : Value} {size bytes : Nat} (ht : P.underlying t = some (.slice e)) (hE : EI P e z size bytes)
    (base : Nat) (n : Nat) {kl kc : IntKind} {L C : Int} (hl : a.eval l = .int kl L) (hc : a.eval c = .int kc C) (hL : L = (n : Int)) (hC : C = (n : Int)) (b2 : bytes * n ≤ 140737488355328) (hbase : base ≤ w.heap.size)
    (hK : ∀ w', w'.ownsRow base e size (.slice (some ⟨w.heap.size, 0, none⟩) n n) n (madeCells z.cells (n * size)).toList → Below base w w' → w.grownBy w' none → wpList P ops Q rest (a.put o.dst (.slice (some ⟨w.heap.size, 0, none⟩) n n)) w') :
    wpList P ops Q (o :: rest) a w := by
  obtain ⟨i, hi, hz, hsize, hby, hzs, hsz, hbp⟩ := hE
  have h63 : n ≤ 140737488355328 := Nat.le_trans (Nat.le_mul_of_pos_left _ hbp) b2
  exact wpList_make_full w hg l c t hop base e i z size ht hi hz hsize kl kc L C n hl hc hL hC (by rw [hby]; omega) (by unfold maxLen; omega) hbase fun w' h1 h2 => hK w' h1 ((Below.refl _ _).grown h2 hbase (by simp)) h2

theorem mkown {P : Program} {w : World} {ops : Array Oper} {rest : List Oper} {o : Oper} {a : Act} {Q : Exit → Act → World → Prop}
    (hg : o.guard = none) (l c : Operand) (t : TypeId) (hop : o.op = Op.makeSlice t l c) {e : TypeId} {z : Value} {size bytes : Nat} (ht : P.underlying t = some (.slice e)) (hE : EI P e z size bytes)
    (base : Nat) (n : Nat) {kl kc : IntKind} {C : Int} (hl : a.eval l = .int kl 0) (hc : a.eval c = .int kc C) (hC : C = (n : Int)) (b2 : bytes * n ≤ 140737488355328) (hbase : base ≤ w.heap.size)
    (hK : ∀ w', w'.ownsRow base e size (.slice (some ⟨w.heap.size, 0, none⟩) 0 n) 0 [] → Below base w w' → w.grownBy w' none → wpList P ops Q rest (a.put o.dst (.slice (some ⟨w.heap.size, 0, none⟩) 0 n)) w') :
    wpList P ops Q (o :: rest) a w := by
  obtain ⟨i, hi, hz, hsize, hby, hzs, hsz, hbp⟩ := hE
  have h63 : n ≤ 140737488355328 := Nat.le_trans (Nat.le_mul_of_pos_left _ hbp) b2
  exact wpList_make_own w hg l c t hop base e i z size ht hi hz hsize kl kc C n hl hc hC (by rw [hby]; omega) (by unfold maxLen; omega) hbase fun w' h1 h2 => hK w' h1 ((Below.refl _ _).grown h2 hbase (by simp)) h2

theorem made_ints (k : IntKind) (n : Nat) : (madeCells (Value.cells (.int k 0)) (n * 1)).toList = (List.replicate n (0 : Int)).map (Value.int k) := by
  apply List.ext_getElem
  · simp [madeCells]
  · intro i h1 h2
    simp [madeCells, Value.cells, Nat.mod_one]

theorem eiInt : EI Try.prog 3 (.int .i64 0) 1 8 := .of (by kernel_rfl) rfl (by decide) (by decide)
end Go.Proofs.Ytjmjnkilgoelbaa

namespace Go.Proofs.Ytjmjnkilgoelbaa
open Go.RowKit

def Ok64 (z : Int) : Prop := -9223372036854775808 ≤ z ∧ z ≤ 9223372036854775807

instance (z : Int) : Decidable (Ok64 z) := by unfold Ok64; infer_instance

theorem ret2 {k k' : IntKind} {a b c d : Int} (h : a = c) (h' : b = d) : Ending.returned (.tuple #[.int k a, .int k' b]) = .returned (.tuple #[.int k c, .int k' d]) := by rw [h, h']

theorem ret3 {k k' k'' : IntKind} {a b c d e f : Int} (h : a = c) (h' : b = d) (h'' : e = f) : Ending.returned (.tuple #[.int k a, .int k' b, .int k'' e]) = .returned (.tuple #[.int k c, .int k' d, .int k'' f]) := by rw [h, h', h'']

theorem getD_of {α : Type} {l : List α} {i : Nat} {x d : α} (h : l[i]? = some x) : l.getD i d = x := by simp [h]

theorem quiet_left {P : Program} {f : FuncId} {args : Array Value} {w : World} {n : Nat} {v : Value}
    (h : Calls P f args (w.drewN n) fun e w' => e = .returned v ∧ w.drewN n = w') : Calls P f args (w.drewN n) fun e w'' => e = .returned v ∧ ∃ m, w'' = w.drewN m :=
  h.mono fun _ _ ⟨he, hm⟩ => ⟨he, n, hm.symm⟩

theorem below_drewN {B : Nat} {a w : World} (h : Below B a w) (n : Nat) : Below B a (w.drewN n) := ⟨h.os, h.tape, h.output, h.size, h.block⟩

theorem Ints.drewN {k : IntKind} {w : World} {v : Value} {l : List Int} (h : Ints k w v l) (n : Nat) : Ints k (w.drewN n) v l := h.below (below_drewN (Below.refl _ _) n)

theorem quiet_add_left {P : Program} {f : FuncId} {args : Array Value} {w : World} {a n : Nat} {v : Value}
    (h : Calls P f args (w.drewN (a + n)) fun e w' => e = .returned v ∧ w.drewN (a + n) = w') : Calls P f args (w.drewN (a + n)) fun e w'' => e = .returned v ∧ ∃ m, w'' = w.drewN (a + m) :=
  h.mono fun _ _ ⟨he, hm⟩ => ⟨he, n, hm.symm⟩

theorem Ints.cutAt {k : IntKind} {w : World} {ad : Option Addr} {n c : Nat} {l : List Int} (h : Ints k w (.slice ad n c) l) {i m : Nat} (hi : i + m ≤ l.length) {ad' : Option Addr} (c' : Nat) (hc : m ≤ c') (hc2 : c' ≤ 9223372036854775807)
    (ha : m ≠ 0 → ∀ b o, ad = some ⟨b, o, none⟩ → ad' = some ⟨b, o + i, none⟩) : Ints k w (.slice ad' m c') ((l.drop i).take m) := by
  obtain ⟨a0, c0, e, h1, h2, h3, h4⟩ := h
  injection e with e1 e2 e3
  subst e1 e2 e3
  have hlen : ((l.drop i).take m).length = m := by simp; omega
  refine ⟨ad', c', by rw [hlen], by omega, hc2, by omega, fun j x hj => ?_⟩
  have hjm : j < m := by have := (List.getElem?_eq_some_iff.1 hj).1; omega
  rw [List.getElem?_take, if_pos hjm, List.getElem?_drop] at hj
  obtain ⟨b, o, e, hb, hc⟩ := h4 (i + j) x hj
  exact ⟨b, o + i, ha (by omega) b o e, hb, by rw [Nat.add_assoc]; exact hc⟩

theorem Ints.new (k : IntKind) (W : World) (T : TypeId) (cs : Array Value) (l : List Int) (n c : Nat) (hcs : cs.toList = l.map (Value.int k)) (hn : n = l.length) (hc : n ≤ c) (hc2 : c ≤ 1000000) : Ints k (W.alloc (.cells cs T)) (.slice (some ⟨W.heap.size, 0, none⟩) n c) l := by
  subst hn
  refine ⟨_, _, rfl, hc, by omega, by omega, fun i x hi => ⟨W.heap.size, 0, rfl, by simp, ?_⟩⟩
  have hb := heap_alloc_new W (.cells cs T)
  simp only [World.cell?, hb]
  have : cs.toList[i]? = some (.int k x) := by rw [hcs]; simp [hi]
  simpa using this

theorem Ints.new' (k : IntKind) (W : World) (T : TypeId) (cs : Array Value) (l : List Int) (b n c : Nat) (hb : b = W.heap.size) (hcs : cs.toList = l.map (Value.int k)) (hn : n = l.length) (hc : n ≤ c) (hc2 : c ≤ 1000000) : Ints k (W.alloc (.cells cs T)) (.slice (some ⟨b, 0, none⟩) n c) l := by
  subst hb; exact Ints.new k W T cs l n c hcs hn hc hc2

/-- Append of a whole list of integers onto a row of the call's own. -/
theorem appInts {P : Program} {ops : Array Oper} {rest : List Oper} {o : Oper} {a : Act} {Q : Exit → Act → World → Prop} (hgd : o.guard = none) (s x : Operand) (t : TypeId)
    (ho : o.op = .call { callee := .builtin .append, args := #[s, x], argTypes := #[t, t] })
    {e : TypeId} {z : Value} {bytes : Nat} (ht : P.underlying t = some (.slice e)) (hE : EI P e z 1 bytes)
    (base : Nat) {v : Value} {n : Nat} {xs : List Value} {W : World} {k : IntKind} {vx : Value} {l : List Int} (hs : a.eval s = v) (hown : W.ownsRow base e 1 v n xs)
    (hx : a.eval x = vx) (hl : Ints k W vx l) (hbytes : (n + l.length) * bytes ≤ 140737488355328) (hbase : base ≤ W.heap.size)
    (h : ∀ v' w', w'.ownsRow base e 1 v' (n + l.length) (xs ++ l.map (Value.int k)) → Below base W w' → W.grownBy w' v.ownBlock → wpList P ops Q rest (a.put o.dst v') w') :
    wpList P ops Q (o :: rest) a W := by
  obtain ⟨i, hi, hz, hsize, hby, hzs, hsz, hbp⟩ := hE
  have h63 : n + l.length ≤ 140737488355328 := Nat.le_trans (Nat.le_mul_of_pos_right _ hbp) hbytes
  obtain ⟨ad, c, rfl, g1, g2, g3, h4⟩ := hl
  rcases ad with _ | ad
  · have hl0 : l = [] := by
      cases l with
      | nil => rfl
      | cons x l => obtain ⟨b, o, e, _⟩ := h4 0 x rfl; cases e
    subst hl0
    have hrun : (Builtin.append_ #[t, t] o.type #[v, .slice none 0 c]).run P W = .ok v W := by
      rcases hown.2 with ⟨rfl, rfl⟩ | ⟨g, cap, cur, rfl, _, _, hnc, _⟩
      · simp [Builtin.append_, run_underlying ht, sizeOf, typeInfo, hi, Builtin.lenOf, Builtin.firstCells]
      · simp [Builtin.append_, run_underlying ht, sizeOf, typeInfo, hi, Builtin.lenOf, Builtin.firstCells, hnc, storeCells]
    refine wpList_plain hgd fun K hK => ?_
    unfold Oper.wp execOp
    simp only [ho, resolve, invoke, builtin, Sem.run_bind, Sem.run_pure, Result.andThen_ok, List.map_toArray, List.map_cons, List.map_nil, hs, hx, List.length_nil, hrun]
    exact hK _ _ (h v W (by simpa using hown) (Below.refl _ _) ⟨rfl, rfl, rfl, Nat.le_refl _, fun _ _ _ => rfl⟩)
  · refine wpList_append_own _ hgd s x t ho base e i z 1 bytes ht hi hz hsize hby hzs hsz v n xs hs hown ad l.length c (l.map (Value.int k)) hx (by simp) ?_ (by intro u hu; simp at hu; obtain ⟨y, _, rfl⟩ := hu; rfl) (by unfold maxLen; omega) hbytes hbase ?_
    · intro j u hu
      rw [List.getElem?_map] at hu
      cases hy : l[j]? with
      | none => rw [hy] at hu; cases hu
      | some y =>
        rw [hy] at hu
        obtain ⟨b, o, e, _, hc⟩ := h4 j y hy
        injection e with e
        subst e
        have hadd : (⟨b, o, none⟩ : Addr).add j = ⟨b, o + j, none⟩ := by unfold Addr.add; split <;> simp_all
        rw [hadd, hc]
        simpa using hu
    · intro v' w' hown' hg _
      exact h v' w' hown' ((Below.refl _ _).grown hg hbase fun k hk => (hown.lt k hk).1) hg

theorem below_tr {B : Nat} {a b c : World} (h : Below B a b) (k : Below B b c) : Below B a c := h.trans k

theorem own_keep {w w' : World} {base e size n : Nat} {v : Value} {xs : List Value} (h : w.ownsRow base e size v n xs) (hk : ∀ g, base ≤ g → g < w.heap.size → w'.heap[g]? = w.heap[g]?) : w'.ownsRow base e size v n xs := by
  have hlt := h.lt
  refine ⟨h.1, ?_⟩
  rcases h.2 with h1 | ⟨g, cap, cur, rfl, h2, h3, h4⟩
  · exact .inl h1
  · exact .inr ⟨g, cap, cur, rfl, h2, (hk g (hlt g rfl).1 (hlt g rfl).2).trans h3, h4⟩

theorem ints_nil (k : IntKind) (w : World) (a : Option Addr) (c : Nat) (hc : c ≤ 9223372036854775807) : Ints k w (.slice a 0 c) [] := ⟨a, c, rfl, by simp, hc, by simp, fun i x h => by simp at h⟩

theorem Ints.len {k : IntKind} {w : World} {a : Option Addr} {n n' c : Nat} {l : List Int} (h : Ints k w (.slice a n c) l) (e : n = n') : Ints k w (.slice a n' c) l := by subst e; exact h

theorem quiet_same {P : Program} {f : FuncId} {args : Array Value} {w : World} {v : Value}
    (h : Calls P f args w fun e w' => e = .returned v ∧ w = w') : Calls P f args w fun e w'' => e = .returned v ∧ ∃ m, w'' = w.drewN m :=
  h.mono fun _ _ ⟨he, hm⟩ => ⟨he, 0, hm.symm⟩

theorem quiet_add {P : Program} {f : FuncId} {args : Array Value} {w : World} {a n : Nat} {v : Value}
    (h : Calls P f args (w.drewN (a + n)) fun e w' => e = .returned v ∧ ∃ m, w' = (w.drewN (a + n)).drewN m) :
    Calls P f args (w.drewN (a + n)) fun e w'' => e = .returned v ∧ ∃ m, w'' = w.drewN (a + m) :=
  h.mono fun _ _ ⟨he, m, hm⟩ => ⟨he, n + m, by rw [hm, World.drewN_drewN, Nat.add_assoc]⟩

/-- Append of a whole list of integers onto a row of the call's own, whatever its guard. -/
theorem appIntsW {P : Program} {ops : Array Oper} {rest : List Oper} {o : Oper} {a : Act} {Q : Exit → Act → World → Prop} (hgd : Region.wanted o (yielded ops a.tmps) = true) (s x : Operand) (t : TypeId)
    (ho : o.op = .call { callee := .builtin .append, args := #[s, x], argTypes := #[t, t] })
    {e : TypeId} {z : Value} {bytes : Nat} (ht : P.underlying t = some (.slice e)) (hE : EI P e z 1 bytes)
    (base : Nat) {v : Value} {n : Nat} {xs : List Value} {W : World} {k : IntKind} {vx : Value} {l : List Int} (hs : a.eval s = v) (hown : W.ownsRow base e 1 v n xs)
    (hx : a.eval x = vx) (hl : Ints k W vx l) (hbytes : (n + l.length) * bytes ≤ 140737488355328) (hbase : base ≤ W.heap.size)
    (h : ∀ v' w', w'.ownsRow base e 1 v' (n + l.length) (xs ++ l.map (Value.int k)) → Below base W w' → W.grownBy w' v.ownBlock → wpList P ops Q rest (a.put o.dst v') w') :
    wpList P ops Q (o :: rest) a W := by
  obtain ⟨i, hi, hz, hsize, hby, hzs, hsz, hbp⟩ := hE
  have h63 : n + l.length ≤ 140737488355328 := Nat.le_trans (Nat.le_mul_of_pos_right _ hbp) hbytes
  obtain ⟨ad, c, rfl, g1, g2, g3, h4⟩ := hl
  have hrun : ∃ v' w', (Builtin.append_ #[t, t] o.type #[v, .slice ad l.length c]).run P W = .ok v' w' ∧ w'.ownsRow base e 1 v' (n + l.length) (xs ++ l.map (Value.int k)) ∧ W.grownBy w' v.ownBlock := by
    rcases ad with _ | ad
    · have hl0 : l = [] := by
        cases l with
        | nil => rfl
        | cons x l => obtain ⟨b, o, e, _⟩ := h4 0 x rfl; cases e
      subst hl0
      refine ⟨v, W, ?_, by simpa using hown, ⟨rfl, rfl, rfl, Nat.le_refl _, fun _ _ _ => rfl⟩⟩
      rcases hown.2 with ⟨rfl, rfl⟩ | ⟨g, cap, cur, rfl, _, _, hnc, _⟩
      · simp [Builtin.append_, run_underlying ht, sizeOf, typeInfo, hi, Builtin.lenOf, Builtin.firstCells]
      · simp [Builtin.append_, run_underlying ht, sizeOf, typeInfo, hi, Builtin.lenOf, Builtin.firstCells, hnc, storeCells]
    · obtain ⟨v', w', hrun, h2, h3, _⟩ := run_append_own_at (P := P) W base t o.type e i z 1 bytes ht hi hz hsize hby hzs hsz v n xs hown ad l.length c (l.map (Value.int k)) (by simp) (by
        intro j u hu
        rw [List.getElem?_map] at hu
        cases hy : l[j]? with
        | none => rw [hy] at hu; cases hu
        | some y =>
          rw [hy] at hu
          obtain ⟨b, o, e, _, hc⟩ := h4 j y hy
          injection e with e
          subst e
          have hadd : (⟨b, o, none⟩ : Addr).add j = ⟨b, o + j, none⟩ := by unfold Addr.add; split <;> simp_all
          rw [hadd, hc]
          simpa using hu) (by intro u hu; simp at hu; obtain ⟨y, _, rfl⟩ := hu; rfl) (by unfold maxLen; omega) hbytes hbase
      exact ⟨v', w', hrun, h2, h3⟩
  obtain ⟨v', w', hrun, h2, h3⟩ := hrun
  refine wpList_step fun K hK => ?_
  rw [if_pos hgd]
  unfold Oper.wp execOp
  simp only [ho, resolve, invoke, builtin, Sem.run_bind, Sem.run_pure, Result.andThen_ok, List.map_toArray, List.map_cons, List.map_nil, hs, hx, hrun]
  exact hK _ _ (h v' w' h2 ((Below.refl _ _).grown h3 hbase fun k hk => (hown.lt k hk).1) h3)

/-! ### words for the lines that gen.py prints -/
theorem Bs {B : Nat} {a w : World} {A : Addr} {u : Value} (hb : Below B a w) (h : B ≤ A.block := by first | omega | (simp; done) | (simp; omega)) : Below B a (w.setCell A u) := hb.setCell h u

theorem Ba {B : Nat} {a w : World} {o : Obj} (hb : Below B a w) (h : B ≤ w.heap.size := by first | omega | (simp; done) | (simp; omega)) : Below B a (w.alloc o) := hb.alloc h o

theorem Bd {B : Nat} {a w : World} (hb : Below B a w) : Below B a w.drew := hb.drew

theorem Bn {B n : Nat} {a w : World} (hb : Below B a w) : Below B a (w.drewN n) := below_drewN hb n

theorem Bt {B C : Nat} {a m w : World} (k : Below C m w) (hb : Below B a m) (h : B ≤ C := by first | omega | (simp; done) | (simp; omega)) : Below B a w := hb.trans (k.mono h)

theorem Bc {B C : Nat} {a m w : World} (hb : Below B a m) (k : Below C m w) (h : B ≤ C := by first | omega | (simp; done) | (simp; omega)) : Below B a w := hb.trans (k.mono h)

theorem sz {C L : Nat} {m w : World} (k : Below C m w) (h : L ≤ m.heap.size := by first | omega | (simp; done) | (simp; omega)) : L ≤ w.heap.size := Nat.le_trans h k.size

theorem sg {L : Nat} {R : Option Nat} {m w : World} (k : m.grownBy w R) (h : L ≤ m.heap.size := by first | omega | (simp; done) | (simp; omega)) : L ≤ w.heap.size := Nat.le_trans h k.size

theorem Ints.setC {k : IntKind} {w : World} {v : Value} {l : List Int} {B : Nat} {A : Addr} {u : Value} (hf : Fresh B v) (h : Ints k w v l) (hA : A.block < B := by first | omega | (simp; done) | (simp; omega)) : Ints k (w.setCell A u) v l := h.setCell hf hA u

theorem Ints.alloc {k : IntKind} {w : World} {v : Value} {l : List Int} (h : Ints k w v l) (o : Obj) : Ints k (w.alloc o) v l := h.below (Ba (Below.refl _ _))

theorem Ints.drew {k : IntKind} {w : World} {v : Value} {l : List Int} (h : Ints k w v l) : Ints k w.drew v l := h.below (Bd (Below.refl _ _))

theorem lnm {a b : Nat} (h : a < b) : a < b ∧ a ≠ b ∧ b ≠ a := ⟨h, by omega, by omega⟩

theorem kc {B b o : Nat} {m w : World} {v : Value} (k : Below B m w) (e : m.cell? ⟨b, o, none⟩ = some v) (h : b < B) : w.cell? ⟨b, o, none⟩ = some v := (k.cell (p := ⟨b, o, none⟩) h).trans e

theorem kf {B b o : Nat} {m w : World} (k : Below B m w) (e : m.frozen? ⟨b, o, none⟩ = false) (h : b < B) : w.frozen? ⟨b, o, none⟩ = false := (k.frozen (p := ⟨b, o, none⟩) h).trans e

theorem gc {R b o : Nat} {m w : World} {v : Value} (k : m.grownBy w (some R)) (e : m.cell? ⟨b, o, none⟩ = some v) (h : b < m.heap.size) (hn : R ≠ b) : w.cell? ⟨b, o, none⟩ = some v :=
  (World.cell?_of_block (w := m) (w' := w) (a := ⟨b, o, none⟩) (k.block b h (by simp; omega))).trans e

theorem gf {R b o : Nat} {m w : World} (k : m.grownBy w (some R)) (e : m.frozen? ⟨b, o, none⟩ = false) (h : b < m.heap.size) (hn : R ≠ b) : w.frozen? ⟨b, o, none⟩ = false := by
  have hh := k.block b h (by simp; omega)
  simp only [World.frozen?] at e ⊢
  rw [hh]
  exact e

theorem k2 (b : Nat) (v0 v1 : Value) {B : Nat} {m w : World} (k : Below B m w) (e : m.cell? ⟨b, 0, none⟩ = some v0 ∧ m.cell? ⟨b, 1, none⟩ = some v1) (h : b < B := by first | omega | (simp; done) | (simp; omega)) : w.cell? ⟨b, 0, none⟩ = some v0 ∧ w.cell? ⟨b, 1, none⟩ = some v1 := by
  obtain ⟨e0, e1⟩ := e
  exact ⟨kc k e0 h, kc k e1 h⟩

theorem g2 (b : Nat) (v0 v1 : Value) {R : Nat} {m w : World} (k : m.grownBy w (some R)) (e : m.cell? ⟨b, 0, none⟩ = some v0 ∧ m.cell? ⟨b, 1, none⟩ = some v1) (h : b < m.heap.size := by first | omega | (simp; done) | (simp; omega)) (hn : R ≠ b := by omega) : w.cell? ⟨b, 0, none⟩ = some v0 ∧ w.cell? ⟨b, 1, none⟩ = some v1 := by
  obtain ⟨e0, e1⟩ := e
  exact ⟨gc k e0 h hn, gc k e1 h hn⟩

theorem k2f (b : Nat) (v0 v1 : Value) {B : Nat} {m w : World} (k : Below B m w) (e : m.cell? ⟨b, 0, none⟩ = some v0 ∧ m.frozen? ⟨b, 0, none⟩ = false ∧ m.cell? ⟨b, 1, none⟩ = some v1 ∧ m.frozen? ⟨b, 1, none⟩ = false) (h : b < B := by first | omega | (simp; done) | (simp; omega)) : w.cell? ⟨b, 0, none⟩ = some v0 ∧ w.frozen? ⟨b, 0, none⟩ = false ∧ w.cell? ⟨b, 1, none⟩ = some v1 ∧ w.frozen? ⟨b, 1, none⟩ = false := by
  obtain ⟨e0, f0, e1, f1⟩ := e
  exact ⟨kc k e0 h, kf k f0 h, kc k e1 h, kf k f1 h⟩

theorem g2f (b : Nat) (v0 v1 : Value) {R : Nat} {m w : World} (k : m.grownBy w (some R)) (e : m.cell? ⟨b, 0, none⟩ = some v0 ∧ m.frozen? ⟨b, 0, none⟩ = false ∧ m.cell? ⟨b, 1, none⟩ = some v1 ∧ m.frozen? ⟨b, 1, none⟩ = false) (h : b < m.heap.size := by first | omega | (simp; done) | (simp; omega)) (hn : R ≠ b := by omega) : w.cell? ⟨b, 0, none⟩ = some v0 ∧ w.frozen? ⟨b, 0, none⟩ = false ∧ w.cell? ⟨b, 1, none⟩ = some v1 ∧ w.frozen? ⟨b, 1, none⟩ = false := by
  obtain ⟨e0, f0, e1, f1⟩ := e
  exact ⟨gc k e0 h hn, gf k f0 h hn, gc k e1 h hn, gf k f1 h hn⟩

theorem k3 (b : Nat) (v0 v1 v2 : Value) {B : Nat} {m w : World} (k : Below B m w) (e : m.cell? ⟨b, 0, none⟩ = some v0 ∧ m.cell? ⟨b, 1, none⟩ = some v1 ∧ m.cell? ⟨b, 2, none⟩ = some v2) (h : b < B := by first | omega | (simp; done) | (simp; omega)) : w.cell? ⟨b, 0, none⟩ = some v0 ∧ w.cell? ⟨b, 1, none⟩ = some v1 ∧ w.cell? ⟨b, 2, none⟩ = some v2 := by
  obtain ⟨e0, e1, e2⟩ := e
  exact ⟨kc k e0 h, kc k e1 h, kc k e2 h⟩

theorem g3 (b : Nat) (v0 v1 v2 : Value) {R : Nat} {m w : World} (k : m.grownBy w (some R)) (e : m.cell? ⟨b, 0, none⟩ = some v0 ∧ m.cell? ⟨b, 1, none⟩ = some v1 ∧ m.cell? ⟨b, 2, none⟩ = some v2) (h : b < m.heap.size := by first | omega | (simp; done) | (simp; omega)) (hn : R ≠ b := by omega) : w.cell? ⟨b, 0, none⟩ = some v0 ∧ w.cell? ⟨b, 1, none⟩ = some v1 ∧ w.cell? ⟨b, 2, none⟩ = some v2 := by
  obtain ⟨e0, e1, e2⟩ := e
  exact ⟨gc k e0 h hn, gc k e1 h hn, gc k e2 h hn⟩

theorem k3f (b : Nat) (v0 v1 v2 : Value) {B : Nat} {m w : World} (k : Below B m w) (e : m.cell? ⟨b, 0, none⟩ = some v0 ∧ m.frozen? ⟨b, 0, none⟩ = false ∧ m.cell? ⟨b, 1, none⟩ = some v1 ∧ m.frozen? ⟨b, 1, none⟩ = false ∧ m.cell? ⟨b, 2, none⟩ = some v2 ∧ m.frozen? ⟨b, 2, none⟩ = false) (h : b < B := by first | omega | (simp; done) | (simp; omega)) : w.cell? ⟨b, 0, none⟩ = some v0 ∧ w.frozen? ⟨b, 0, none⟩ = false ∧ w.cell? ⟨b, 1, none⟩ = some v1 ∧ w.frozen? ⟨b, 1, none⟩ = false ∧ w.cell? ⟨b, 2, none⟩ = some v2 ∧ w.frozen? ⟨b, 2, none⟩ = false := by
  obtain ⟨e0, f0, e1, f1, e2, f2⟩ := e
  exact ⟨kc k e0 h, kf k f0 h, kc k e1 h, kf k f1 h, kc k e2 h, kf k f2 h⟩

theorem g3f (b : Nat) (v0 v1 v2 : Value) {R : Nat} {m w : World} (k : m.grownBy w (some R)) (e : m.cell? ⟨b, 0, none⟩ = some v0 ∧ m.frozen? ⟨b, 0, none⟩ = false ∧ m.cell? ⟨b, 1, none⟩ = some v1 ∧ m.frozen? ⟨b, 1, none⟩ = false ∧ m.cell? ⟨b, 2, none⟩ = some v2 ∧ m.frozen? ⟨b, 2, none⟩ = false) (h : b < m.heap.size := by first | omega | (simp; done) | (simp; omega)) (hn : R ≠ b := by omega) : w.cell? ⟨b, 0, none⟩ = some v0 ∧ w.frozen? ⟨b, 0, none⟩ = false ∧ w.cell? ⟨b, 1, none⟩ = some v1 ∧ w.frozen? ⟨b, 1, none⟩ = false ∧ w.cell? ⟨b, 2, none⟩ = some v2 ∧ w.frozen? ⟨b, 2, none⟩ = false := by
  obtain ⟨e0, f0, e1, f1, e2, f2⟩ := e
  exact ⟨gc k e0 h hn, gf k f0 h hn, gc k e1 h hn, gf k f1 h hn, gc k e2 h hn, gf k f2 h hn⟩

theorem k4 (b : Nat) (v0 v1 v2 v3 : Value) {B : Nat} {m w : World} (k : Below B m w) (e : m.cell? ⟨b, 0, none⟩ = some v0 ∧ m.cell? ⟨b, 1, none⟩ = some v1 ∧ m.cell? ⟨b, 2, none⟩ = some v2 ∧ m.cell? ⟨b, 3, none⟩ = some v3) (h : b < B := by first | omega | (simp; done) | (simp; omega)) : w.cell? ⟨b, 0, none⟩ = some v0 ∧ w.cell? ⟨b, 1, none⟩ = some v1 ∧ w.cell? ⟨b, 2, none⟩ = some v2 ∧ w.cell? ⟨b, 3, none⟩ = some v3 := by
  obtain ⟨e0, e1, e2, e3⟩ := e
  exact ⟨kc k e0 h, kc k e1 h, kc k e2 h, kc k e3 h⟩

theorem g4 (b : Nat) (v0 v1 v2 v3 : Value) {R : Nat} {m w : World} (k : m.grownBy w (some R)) (e : m.cell? ⟨b, 0, none⟩ = some v0 ∧ m.cell? ⟨b, 1, none⟩ = some v1 ∧ m.cell? ⟨b, 2, none⟩ = some v2 ∧ m.cell? ⟨b, 3, none⟩ = some v3) (h : b < m.heap.size := by first | omega | (simp; done) | (simp; omega)) (hn : R ≠ b := by omega) : w.cell? ⟨b, 0, none⟩ = some v0 ∧ w.cell? ⟨b, 1, none⟩ = some v1 ∧ w.cell? ⟨b, 2, none⟩ = some v2 ∧ w.cell? ⟨b, 3, none⟩ = some v3 := by
  obtain ⟨e0, e1, e2, e3⟩ := e
  exact ⟨gc k e0 h hn, gc k e1 h hn, gc k e2 h hn, gc k e3 h hn⟩

theorem k4f (b : Nat) (v0 v1 v2 v3 : Value) {B : Nat} {m w : World} (k : Below B m w) (e : m.cell? ⟨b, 0, none⟩ = some v0 ∧ m.frozen? ⟨b, 0, none⟩ = false ∧ m.cell? ⟨b, 1, none⟩ = some v1 ∧ m.frozen? ⟨b, 1, none⟩ = false ∧ m.cell? ⟨b, 2, none⟩ = some v2 ∧ m.frozen? ⟨b, 2, none⟩ = false ∧ m.cell? ⟨b, 3, none⟩ = some v3 ∧ m.frozen? ⟨b, 3, none⟩ = false) (h : b < B := by first | omega | (simp; done) | (simp; omega)) : w.cell? ⟨b, 0, none⟩ = some v0 ∧ w.frozen? ⟨b, 0, none⟩ = false ∧ w.cell? ⟨b, 1, none⟩ = some v1 ∧ w.frozen? ⟨b, 1, none⟩ = false ∧ w.cell? ⟨b, 2, none⟩ = some v2 ∧ w.frozen? ⟨b, 2, none⟩ = false ∧ w.cell? ⟨b, 3, none⟩ = some v3 ∧ w.frozen? ⟨b, 3, none⟩ = false := by
  obtain ⟨e0, f0, e1, f1, e2, f2, e3, f3⟩ := e
  exact ⟨kc k e0 h, kf k f0 h, kc k e1 h, kf k f1 h, kc k e2 h, kf k f2 h, kc k e3 h, kf k f3 h⟩

theorem g4f (b : Nat) (v0 v1 v2 v3 : Value) {R : Nat} {m w : World} (k : m.grownBy w (some R)) (e : m.cell? ⟨b, 0, none⟩ = some v0 ∧ m.frozen? ⟨b, 0, none⟩ = false ∧ m.cell? ⟨b, 1, none⟩ = some v1 ∧ m.frozen? ⟨b, 1, none⟩ = false ∧ m.cell? ⟨b, 2, none⟩ = some v2 ∧ m.frozen? ⟨b, 2, none⟩ = false ∧ m.cell? ⟨b, 3, none⟩ = some v3 ∧ m.frozen? ⟨b, 3, none⟩ = false) (h : b < m.heap.size := by first | omega | (simp; done) | (simp; omega)) (hn : R ≠ b := by omega) : w.cell? ⟨b, 0, none⟩ = some v0 ∧ w.frozen? ⟨b, 0, none⟩ = false ∧ w.cell? ⟨b, 1, none⟩ = some v1 ∧ w.frozen? ⟨b, 1, none⟩ = false ∧ w.cell? ⟨b, 2, none⟩ = some v2 ∧ w.frozen? ⟨b, 2, none⟩ = false ∧ w.cell? ⟨b, 3, none⟩ = some v3 ∧ w.frozen? ⟨b, 3, none⟩ = false := by
  obtain ⟨e0, f0, e1, f1, e2, f2, e3, f3⟩ := e
  exact ⟨gc k e0 h hn, gf k f0 h hn, gc k e1 h hn, gf k f1 h hn, gc k e2 h hn, gf k f2 h hn, gc k e3 h hn, gf k f3 h hn⟩

theorem k5 (b : Nat) (v0 v1 v2 v3 v4 : Value) {B : Nat} {m w : World} (k : Below B m w) (e : m.cell? ⟨b, 0, none⟩ = some v0 ∧ m.cell? ⟨b, 1, none⟩ = some v1 ∧ m.cell? ⟨b, 2, none⟩ = some v2 ∧ m.cell? ⟨b, 3, none⟩ = some v3 ∧ m.cell? ⟨b, 4, none⟩ = some v4) (h : b < B := by first | omega | (simp; done) | (simp; omega)) : w.cell? ⟨b, 0, none⟩ = some v0 ∧ w.cell? ⟨b, 1, none⟩ = some v1 ∧ w.cell? ⟨b, 2, none⟩ = some v2 ∧ w.cell? ⟨b, 3, none⟩ = some v3 ∧ w.cell? ⟨b, 4, none⟩ = some v4 := by
  obtain ⟨e0, e1, e2, e3, e4⟩ := e
  exact ⟨kc k e0 h, kc k e1 h, kc k e2 h, kc k e3 h, kc k e4 h⟩

theorem g5 (b : Nat) (v0 v1 v2 v3 v4 : Value) {R : Nat} {m w : World} (k : m.grownBy w (some R)) (e : m.cell? ⟨b, 0, none⟩ = some v0 ∧ m.cell? ⟨b, 1, none⟩ = some v1 ∧ m.cell? ⟨b, 2, none⟩ = some v2 ∧ m.cell? ⟨b, 3, none⟩ = some v3 ∧ m.cell? ⟨b, 4, none⟩ = some v4) (h : b < m.heap.size := by first | omega | (simp; done) | (simp; omega)) (hn : R ≠ b := by omega) : w.cell? ⟨b, 0, none⟩ = some v0 ∧ w.cell? ⟨b, 1, none⟩ = some v1 ∧ w.cell? ⟨b, 2, none⟩ = some v2 ∧ w.cell? ⟨b, 3, none⟩ = some v3 ∧ w.cell? ⟨b, 4, none⟩ = some v4 := by
  obtain ⟨e0, e1, e2, e3, e4⟩ := e
  exact ⟨gc k e0 h hn, gc k e1 h hn, gc k e2 h hn, gc k e3 h hn, gc k e4 h hn⟩

theorem k5f (b : Nat) (v0 v1 v2 v3 v4 : Value) {B : Nat} {m w : World} (k : Below B m w) (e : m.cell? ⟨b, 0, none⟩ = some v0 ∧ m.frozen? ⟨b, 0, none⟩ = false ∧ m.cell? ⟨b, 1, none⟩ = some v1 ∧ m.frozen? ⟨b, 1, none⟩ = false ∧ m.cell? ⟨b, 2, none⟩ = some v2 ∧ m.frozen? ⟨b, 2, none⟩ = false ∧ m.cell? ⟨b, 3, none⟩ = some v3 ∧ m.frozen? ⟨b, 3, none⟩ = false ∧ m.cell? ⟨b, 4, none⟩ = some v4 ∧ m.frozen? ⟨b, 4, none⟩ = false) (h : b < B := by first | omega | (simp; done) | (simp; omega)) : w.cell? ⟨b, 0, none⟩ = some v0 ∧ w.frozen? ⟨b, 0, none⟩ = false ∧ w.cell? ⟨b, 1, none⟩ = some v1 ∧ w.frozen? ⟨b, 1, none⟩ = false ∧ w.cell? ⟨b, 2, none⟩ = some v2 ∧ w.frozen? ⟨b, 2, none⟩ = false ∧ w.cell? ⟨b, 3, none⟩ = some v3 ∧ w.frozen? ⟨b, 3, none⟩ = false ∧ w.cell? ⟨b, 4, none⟩ = some v4 ∧ w.frozen? ⟨b, 4, none⟩ = false := by
  obtain ⟨e0, f0, e1, f1, e2, f2, e3, f3, e4, f4⟩ := e
  exact ⟨kc k e0 h, kf k f0 h, kc k e1 h, kf k f1 h, kc k e2 h, kf k f2 h, kc k e3 h, kf k f3 h, kc k e4 h, kf k f4 h⟩

theorem g5f (b : Nat) (v0 v1 v2 v3 v4 : Value) {R : Nat} {m w : World} (k : m.grownBy w (some R)) (e : m.cell? ⟨b, 0, none⟩ = some v0 ∧ m.frozen? ⟨b, 0, none⟩ = false ∧ m.cell? ⟨b, 1, none⟩ = some v1 ∧ m.frozen? ⟨b, 1, none⟩ = false ∧ m.cell? ⟨b, 2, none⟩ = some v2 ∧ m.frozen? ⟨b, 2, none⟩ = false ∧ m.cell? ⟨b, 3, none⟩ = some v3 ∧ m.frozen? ⟨b, 3, none⟩ = false ∧ m.cell? ⟨b, 4, none⟩ = some v4 ∧ m.frozen? ⟨b, 4, none⟩ = false) (h : b < m.heap.size := by first | omega | (simp; done) | (simp; omega)) (hn : R ≠ b := by omega) : w.cell? ⟨b, 0, none⟩ = some v0 ∧ w.frozen? ⟨b, 0, none⟩ = false ∧ w.cell? ⟨b, 1, none⟩ = some v1 ∧ w.frozen? ⟨b, 1, none⟩ = false ∧ w.cell? ⟨b, 2, none⟩ = some v2 ∧ w.frozen? ⟨b, 2, none⟩ = false ∧ w.cell? ⟨b, 3, none⟩ = some v3 ∧ w.frozen? ⟨b, 3, none⟩ = false ∧ w.cell? ⟨b, 4, none⟩ = some v4 ∧ w.frozen? ⟨b, 4, none⟩ = false := by
  obtain ⟨e0, f0, e1, f1, e2, f2, e3, f3, e4, f4⟩ := e
  exact ⟨gc k e0 h hn, gf k f0 h hn, gc k e1 h hn, gf k f1 h hn, gc k e2 h hn, gf k f2 h hn, gc k e3 h hn, gf k f3 h hn, gc k e4 h hn, gf k f4 h hn⟩

theorem k6 (b : Nat) (v0 v1 v2 v3 v4 v5 : Value) {B : Nat} {m w : World} (k : Below B m w) (e : m.cell? ⟨b, 0, none⟩ = some v0 ∧ m.cell? ⟨b, 1, none⟩ = some v1 ∧ m.cell? ⟨b, 2, none⟩ = some v2 ∧ m.cell? ⟨b, 3, none⟩ = some v3 ∧ m.cell? ⟨b, 4, none⟩ = some v4 ∧ m.cell? ⟨b, 5, none⟩ = some v5) (h : b < B := by first | omega | (simp; done) | (simp; omega)) : w.cell? ⟨b, 0, none⟩ = some v0 ∧ w.cell? ⟨b, 1, none⟩ = some v1 ∧ w.cell? ⟨b, 2, none⟩ = some v2 ∧ w.cell? ⟨b, 3, none⟩ = some v3 ∧ w.cell? ⟨b, 4, none⟩ = some v4 ∧ w.cell? ⟨b, 5, none⟩ = some v5 := by
  obtain ⟨e0, e1, e2, e3, e4, e5⟩ := e
  exact ⟨kc k e0 h, kc k e1 h, kc k e2 h, kc k e3 h, kc k e4 h, kc k e5 h⟩

theorem g6 (b : Nat) (v0 v1 v2 v3 v4 v5 : Value) {R : Nat} {m w : World} (k : m.grownBy w (some R)) (e : m.cell? ⟨b, 0, none⟩ = some v0 ∧ m.cell? ⟨b, 1, none⟩ = some v1 ∧ m.cell? ⟨b, 2, none⟩ = some v2 ∧ m.cell? ⟨b, 3, none⟩ = some v3 ∧ m.cell? ⟨b, 4, none⟩ = some v4 ∧ m.cell? ⟨b, 5, none⟩ = some v5) (h : b < m.heap.size := by first | omega | (simp; done) | (simp; omega)) (hn : R ≠ b := by omega) : w.cell? ⟨b, 0, none⟩ = some v0 ∧ w.cell? ⟨b, 1, none⟩ = some v1 ∧ w.cell? ⟨b, 2, none⟩ = some v2 ∧ w.cell? ⟨b, 3, none⟩ = some v3 ∧ w.cell? ⟨b, 4, none⟩ = some v4 ∧ w.cell? ⟨b, 5, none⟩ = some v5 := by
  obtain ⟨e0, e1, e2, e3, e4, e5⟩ := e
  exact ⟨gc k e0 h hn, gc k e1 h hn, gc k e2 h hn, gc k e3 h hn, gc k e4 h hn, gc k e5 h hn⟩

theorem k6f (b : Nat) (v0 v1 v2 v3 v4 v5 : Value) {B : Nat} {m w : World} (k : Below B m w) (e : m.cell? ⟨b, 0, none⟩ = some v0 ∧ m.frozen? ⟨b, 0, none⟩ = false ∧ m.cell? ⟨b, 1, none⟩ = some v1 ∧ m.frozen? ⟨b, 1, none⟩ = false ∧ m.cell? ⟨b, 2, none⟩ = some v2 ∧ m.frozen? ⟨b, 2, none⟩ = false ∧ m.cell? ⟨b, 3, none⟩ = some v3 ∧ m.frozen? ⟨b, 3, none⟩ = false ∧ m.cell? ⟨b, 4, none⟩ = some v4 ∧ m.frozen? ⟨b, 4, none⟩ = false ∧ m.cell? ⟨b, 5, none⟩ = some v5 ∧ m.frozen? ⟨b, 5, none⟩ = false) (h : b < B := by first | omega | (simp; done) | (simp; omega)) : w.cell? ⟨b, 0, none⟩ = some v0 ∧ w.frozen? ⟨b, 0, none⟩ = false ∧ w.cell? ⟨b, 1, none⟩ = some v1 ∧ w.frozen? ⟨b, 1, none⟩ = false ∧ w.cell? ⟨b, 2, none⟩ = some v2 ∧ w.frozen? ⟨b, 2, none⟩ = false ∧ w.cell? ⟨b, 3, none⟩ = some v3 ∧ w.frozen? ⟨b, 3, none⟩ = false ∧ w.cell? ⟨b, 4, none⟩ = some v4 ∧ w.frozen? ⟨b, 4, none⟩ = false ∧ w.cell? ⟨b, 5, none⟩ = some v5 ∧ w.frozen? ⟨b, 5, none⟩ = false := by
  obtain ⟨e0, f0, e1, f1, e2, f2, e3, f3, e4, f4, e5, f5⟩ := e
  exact ⟨kc k e0 h, kf k f0 h, kc k e1 h, kf k f1 h, kc k e2 h, kf k f2 h, kc k e3 h, kf k f3 h, kc k e4 h, kf k f4 h, kc k e5 h, kf k f5 h⟩

theorem g6f (b : Nat) (v0 v1 v2 v3 v4 v5 : Value) {R : Nat} {m w : World} (k : m.grownBy w (some R)) (e : m.cell? ⟨b, 0, none⟩ = some v0 ∧ m.frozen? ⟨b, 0, none⟩ = false ∧ m.cell? ⟨b, 1, none⟩ = some v1 ∧ m.frozen? ⟨b, 1, none⟩ = false ∧ m.cell? ⟨b, 2, none⟩ = some v2 ∧ m.frozen? ⟨b, 2, none⟩ = false ∧ m.cell? ⟨b, 3, none⟩ = some v3 ∧ m.frozen? ⟨b, 3, none⟩ = false ∧ m.cell? ⟨b, 4, none⟩ = some v4 ∧ m.frozen? ⟨b, 4, none⟩ = false ∧ m.cell? ⟨b, 5, none⟩ = some v5 ∧ m.frozen? ⟨b, 5, none⟩ = false) (h : b < m.heap.size := by first | omega | (simp; done) | (simp; omega)) (hn : R ≠ b := by omega) : w.cell? ⟨b, 0, none⟩ = some v0 ∧ w.frozen? ⟨b, 0, none⟩ = false ∧ w.cell? ⟨b, 1, none⟩ = some v1 ∧ w.frozen? ⟨b, 1, none⟩ = false ∧ w.cell? ⟨b, 2, none⟩ = some v2 ∧ w.frozen? ⟨b, 2, none⟩ = false ∧ w.cell? ⟨b, 3, none⟩ = some v3 ∧ w.frozen? ⟨b, 3, none⟩ = false ∧ w.cell? ⟨b, 4, none⟩ = some v4 ∧ w.frozen? ⟨b, 4, none⟩ = false ∧ w.cell? ⟨b, 5, none⟩ = some v5 ∧ w.frozen? ⟨b, 5, none⟩ = false := by
  obtain ⟨e0, f0, e1, f1, e2, f2, e3, f3, e4, f4, e5, f5⟩ := e
  exact ⟨gc k e0 h hn, gf k f0 h hn, gc k e1 h hn, gf k f1 h hn, gc k e2 h hn, gf k f2 h hn, gc k e3 h hn, gf k f3 h hn, gc k e4 h hn, gf k f4 h hn, gc k e5 h hn, gf k f5 h hn⟩

theorem k7 (b : Nat) (v0 v1 v2 v3 v4 v5 v6 : Value) {B : Nat} {m w : World} (k : Below B m w) (e : m.cell? ⟨b, 0, none⟩ = some v0 ∧ m.cell? ⟨b, 1, none⟩ = some v1 ∧ m.cell? ⟨b, 2, none⟩ = some v2 ∧ m.cell? ⟨b, 3, none⟩ = some v3 ∧ m.cell? ⟨b, 4, none⟩ = some v4 ∧ m.cell? ⟨b, 5, none⟩ = some v5 ∧ m.cell? ⟨b, 6, none⟩ = some v6) (h : b < B := by first | omega | (simp; done) | (simp; omega)) : w.cell? ⟨b, 0, none⟩ = some v0 ∧ w.cell? ⟨b, 1, none⟩ = some v1 ∧ w.cell? ⟨b, 2, none⟩ = some v2 ∧ w.cell? ⟨b, 3, none⟩ = some v3 ∧ w.cell? ⟨b, 4, none⟩ = some v4 ∧ w.cell? ⟨b, 5, none⟩ = some v5 ∧ w.cell? ⟨b, 6, none⟩ = some v6 := by
  obtain ⟨e0, e1, e2, e3, e4, e5, e6⟩ := e
  exact ⟨kc k e0 h, kc k e1 h, kc k e2 h, kc k e3 h, kc k e4 h, kc k e5 h, kc k e6 h⟩

theorem g7 (b : Nat) (v0 v1 v2 v3 v4 v5 v6 : Value) {R : Nat} {m w : World} (k : m.grownBy w (some R)) (e : m.cell? ⟨b, 0, none⟩ = some v0 ∧ m.cell? ⟨b, 1, none⟩ = some v1 ∧ m.cell? ⟨b, 2, none⟩ = some v2 ∧ m.cell? ⟨b, 3, none⟩ = some v3 ∧ m.cell? ⟨b, 4, none⟩ = some v4 ∧ m.cell? ⟨b, 5, none⟩ = some v5 ∧ m.cell? ⟨b, 6, none⟩ = some v6) (h : b < m.heap.size := by first | omega | (simp; done) | (simp; omega)) (hn : R ≠ b := by omega) : w.cell? ⟨b, 0, none⟩ = some v0 ∧ w.cell? ⟨b, 1, none⟩ = some v1 ∧ w.cell? ⟨b, 2, none⟩ = some v2 ∧ w.cell? ⟨b, 3, none⟩ = some v3 ∧ w.cell? ⟨b, 4, none⟩ = some v4 ∧ w.cell? ⟨b, 5, none⟩ = some v5 ∧ w.cell? ⟨b, 6, none⟩ = some v6 := by
  obtain ⟨e0, e1, e2, e3, e4, e5, e6⟩ := e
  exact ⟨gc k e0 h hn, gc k e1 h hn, gc k e2 h hn, gc k e3 h hn, gc k e4 h hn, gc k e5 h hn, gc k e6 h hn⟩

theorem k7f (b : Nat) (v0 v1 v2 v3 v4 v5 v6 : Value) {B : Nat} {m w : World} (k : Below B m w) (e : m.cell? ⟨b, 0, none⟩ = some v0 ∧ m.frozen? ⟨b, 0, none⟩ = false ∧ m.cell? ⟨b, 1, none⟩ = some v1 ∧ m.frozen? ⟨b, 1, none⟩ = false ∧ m.cell? ⟨b, 2, none⟩ = some v2 ∧ m.frozen? ⟨b, 2, none⟩ = false ∧ m.cell? ⟨b, 3, none⟩ = some v3 ∧ m.frozen? ⟨b, 3, none⟩ = false ∧ m.cell? ⟨b, 4, none⟩ = some v4 ∧ m.frozen? ⟨b, 4, none⟩ = false ∧ m.cell? ⟨b, 5, none⟩ = some v5 ∧ m.frozen? ⟨b, 5, none⟩ = false ∧ m.cell? ⟨b, 6, none⟩ = some v6 ∧ m.frozen? ⟨b, 6, none⟩ = false) (h : b < B := by first | omega | (simp; done) | (simp; omega)) : w.cell? ⟨b, 0, none⟩ = some v0 ∧ w.frozen? ⟨b, 0, none⟩ = false ∧ w.cell? ⟨b, 1, none⟩ = some v1 ∧ w.frozen? ⟨b, 1, none⟩ = false ∧ w.cell? ⟨b, 2, none⟩ = some v2 ∧ w.frozen? ⟨b, 2, none⟩ = false ∧ w.cell? ⟨b, 3, none⟩ = some v3 ∧ w.frozen? ⟨b, 3, none⟩ = false ∧ w.cell? ⟨b, 4, none⟩ = some v4 ∧ w.frozen? ⟨b, 4, none⟩ = false ∧ w.cell? ⟨b, 5, none⟩ = some v5 ∧ w.frozen? ⟨b, 5, none⟩ = false ∧ w.cell? ⟨b, 6, none⟩ = some v6 ∧ w.frozen? ⟨b, 6, none⟩ = false := by
  obtain ⟨e0, f0, e1, f1, e2, f2, e3, f3, e4, f4, e5, f5, e6, f6⟩ := e
  exact ⟨kc k e0 h, kf k f0 h, kc k e1 h, kf k f1 h, kc k e2 h, kf k f2 h, kc k e3 h, kf k f3 h, kc k e4 h, kf k f4 h, kc k e5 h, kf k f5 h, kc k e6 h, kf k f6 h⟩

theorem g7f (b : Nat) (v0 v1 v2 v3 v4 v5 v6 : Value) {R : Nat} {m w : World} (k : m.grownBy w (some R)) (e : m.cell? ⟨b, 0, none⟩ = some v0 ∧ m.frozen? ⟨b, 0, none⟩ = false ∧ m.cell? ⟨b, 1, none⟩ = some v1 ∧ m.frozen? ⟨b, 1, none⟩ = false ∧ m.cell? ⟨b, 2, none⟩ = some v2 ∧ m.frozen? ⟨b, 2, none⟩ = false ∧ m.cell? ⟨b, 3, none⟩ = some v3 ∧ m.frozen? ⟨b, 3, none⟩ = false ∧ m.cell? ⟨b, 4, none⟩ = some v4 ∧ m.frozen? ⟨b, 4, none⟩ = false ∧ m.cell? ⟨b, 5, none⟩ = some v5 ∧ m.frozen? ⟨b, 5, none⟩ = false ∧ m.cell? ⟨b, 6, none⟩ = some v6 ∧ m.frozen? ⟨b, 6, none⟩ = false) (h : b < m.heap.size := by first | omega | (simp; done) | (simp; omega)) (hn : R ≠ b := by omega) : w.cell? ⟨b, 0, none⟩ = some v0 ∧ w.frozen? ⟨b, 0, none⟩ = false ∧ w.cell? ⟨b, 1, none⟩ = some v1 ∧ w.frozen? ⟨b, 1, none⟩ = false ∧ w.cell? ⟨b, 2, none⟩ = some v2 ∧ w.frozen? ⟨b, 2, none⟩ = false ∧ w.cell? ⟨b, 3, none⟩ = some v3 ∧ w.frozen? ⟨b, 3, none⟩ = false ∧ w.cell? ⟨b, 4, none⟩ = some v4 ∧ w.frozen? ⟨b, 4, none⟩ = false ∧ w.cell? ⟨b, 5, none⟩ = some v5 ∧ w.frozen? ⟨b, 5, none⟩ = false ∧ w.cell? ⟨b, 6, none⟩ = some v6 ∧ w.frozen? ⟨b, 6, none⟩ = false := by
  obtain ⟨e0, f0, e1, f1, e2, f2, e3, f3, e4, f4, e5, f5, e6, f6⟩ := e
  exact ⟨gc k e0 h hn, gf k f0 h hn, gc k e1 h hn, gf k f1 h hn, gc k e2 h hn, gf k f2 h hn, gc k e3 h hn, gf k f3 h hn, gc k e4 h hn, gf k f4 h hn, gc k e5 h hn, gf k f5 h hn, gc k e6 h hn, gf k f6 h hn⟩

theorem k8 (b : Nat) (v0 v1 v2 v3 v4 v5 v6 v7 : Value) {B : Nat} {m w : World} (k : Below B m w) (e : m.cell? ⟨b, 0, none⟩ = some v0 ∧ m.cell? ⟨b, 1, none⟩ = some v1 ∧ m.cell? ⟨b, 2, none⟩ = some v2 ∧ m.cell? ⟨b, 3, none⟩ = some v3 ∧ m.cell? ⟨b, 4, none⟩ = some v4 ∧ m.cell? ⟨b, 5, none⟩ = some v5 ∧ m.cell? ⟨b, 6, none⟩ = some v6 ∧ m.cell? ⟨b, 7, none⟩ = some v7) (h : b < B := by first | omega | (simp; done) | (simp; omega)) : w.cell? ⟨b, 0, none⟩ = some v0 ∧ w.cell? ⟨b, 1, none⟩ = some v1 ∧ w.cell? ⟨b, 2, none⟩ = some v2 ∧ w.cell? ⟨b, 3, none⟩ = some v3 ∧ w.cell? ⟨b, 4, none⟩ = some v4 ∧ w.cell? ⟨b, 5, none⟩ = some v5 ∧ w.cell? ⟨b, 6, none⟩ = some v6 ∧ w.cell? ⟨b, 7, none⟩ = some v7 := by
  obtain ⟨e0, e1, e2, e3, e4, e5, e6, e7⟩ := e
  exact ⟨kc k e0 h, kc k e1 h, kc k e2 h, kc k e3 h, kc k e4 h, kc k e5 h, kc k e6 h, kc k e7 h⟩

theorem g8 (b : Nat) (v0 v1 v2 v3 v4 v5 v6 v7 : Value) {R : Nat} {m w : World} (k : m.grownBy w (some R)) (e : m.cell? ⟨b, 0, none⟩ = some v0 ∧ m.cell? ⟨b, 1, none⟩ = some v1 ∧ m.cell? ⟨b, 2, none⟩ = some v2 ∧ m.cell? ⟨b, 3, none⟩ = some v3 ∧ m.cell? ⟨b, 4, none⟩ = some v4 ∧ m.cell? ⟨b, 5, none⟩ = some v5 ∧ m.cell? ⟨b, 6, none⟩ = some v6 ∧ m.cell? ⟨b, 7, none⟩ = some v7) (h : b < m.heap.size := by first | omega | (simp; done) | (simp; omega)) (hn : R ≠ b := by omega) : w.cell? ⟨b, 0, none⟩ = some v0 ∧ w.cell? ⟨b, 1, none⟩ = some v1 ∧ w.cell? ⟨b, 2, none⟩ = some v2 ∧ w.cell? ⟨b, 3, none⟩ = some v3 ∧ w.cell? ⟨b, 4, none⟩ = some v4 ∧ w.cell? ⟨b, 5, none⟩ = some v5 ∧ w.cell? ⟨b, 6, none⟩ = some v6 ∧ w.cell? ⟨b, 7, none⟩ = some v7 := by
  obtain ⟨e0, e1, e2, e3, e4, e5, e6, e7⟩ := e
  exact ⟨gc k e0 h hn, gc k e1 h hn, gc k e2 h hn, gc k e3 h hn, gc k e4 h hn, gc k e5 h hn, gc k e6 h hn, gc k e7 h hn⟩

theorem k8f (b : Nat) (v0 v1 v2 v3 v4 v5 v6 v7 : Value) {B : Nat} {m w : World} (k : Below B m w) (e : m.cell? ⟨b, 0, none⟩ = some v0 ∧ m.frozen? ⟨b, 0, none⟩ = false ∧ m.cell? ⟨b, 1, none⟩ = some v1 ∧ m.frozen? ⟨b, 1, none⟩ = false ∧ m.cell? ⟨b, 2, none⟩ = some v2 ∧ m.frozen? ⟨b, 2, none⟩ = false ∧ m.cell? ⟨b, 3, none⟩ = some v3 ∧ m.frozen? ⟨b, 3, none⟩ = false ∧ m.cell? ⟨b, 4, none⟩ = some v4 ∧ m.frozen? ⟨b, 4, none⟩ = false ∧ m.cell? ⟨b, 5, none⟩ = some v5 ∧ m.frozen? ⟨b, 5, none⟩ = false ∧ m.cell? ⟨b, 6, none⟩ = some v6 ∧ m.frozen? ⟨b, 6, none⟩ = false ∧ m.cell? ⟨b, 7, none⟩ = some v7 ∧ m.frozen? ⟨b, 7, none⟩ = false) (h : b < B := by first | omega | (simp; done) | (simp; omega)) : w.cell? ⟨b, 0, none⟩ = some v0 ∧ w.frozen? ⟨b, 0, none⟩ = false ∧ w.cell? ⟨b, 1, none⟩ = some v1 ∧ w.frozen? ⟨b, 1, none⟩ = false ∧ w.cell? ⟨b, 2, none⟩ = some v2 ∧ w.frozen? ⟨b, 2, none⟩ = false ∧ w.cell? ⟨b, 3, none⟩ = some v3 ∧ w.frozen? ⟨b, 3, none⟩ = false ∧ w.cell? ⟨b, 4, none⟩ = some v4 ∧ w.frozen? ⟨b, 4, none⟩ = false ∧ w.cell? ⟨b, 5, none⟩ = some v5 ∧ w.frozen? ⟨b, 5, none⟩ = false ∧ w.cell? ⟨b, 6, none⟩ = some v6 ∧ w.frozen? ⟨b, 6, none⟩ = false ∧ w.cell? ⟨b, 7, none⟩ = some v7 ∧ w.frozen? ⟨b, 7, none⟩ = false := by
  obtain ⟨e0, f0, e1, f1, e2, f2, e3, f3, e4, f4, e5, f5, e6, f6, e7, f7⟩ := e
  exact ⟨kc k e0 h, kf k f0 h, kc k e1 h, kf k f1 h, kc k e2 h, kf k f2 h, kc k e3 h, kf k f3 h, kc k e4 h, kf k f4 h, kc k e5 h, kf k f5 h, kc k e6 h, kf k f6 h, kc k e7 h, kf k f7 h⟩

theorem g8f (b : Nat) (v0 v1 v2 v3 v4 v5 v6 v7 : Value) {R : Nat} {m w : World} (k : m.grownBy w (some R)) (e : m.cell? ⟨b, 0, none⟩ = some v0 ∧ m.frozen? ⟨b, 0, none⟩ = false ∧ m.cell? ⟨b, 1, none⟩ = some v1 ∧ m.frozen? ⟨b, 1, none⟩ = false ∧ m.cell? ⟨b, 2, none⟩ = some v2 ∧ m.frozen? ⟨b, 2, none⟩ = false ∧ m.cell? ⟨b, 3, none⟩ = some v3 ∧ m.frozen? ⟨b, 3, none⟩ = false ∧ m.cell? ⟨b, 4, none⟩ = some v4 ∧ m.frozen? ⟨b, 4, none⟩ = false ∧ m.cell? ⟨b, 5, none⟩ = some v5 ∧ m.frozen? ⟨b, 5, none⟩ = false ∧ m.cell? ⟨b, 6, none⟩ = some v6 ∧ m.frozen? ⟨b, 6, none⟩ = false ∧ m.cell? ⟨b, 7, none⟩ = some v7 ∧ m.frozen? ⟨b, 7, none⟩ = false) (h : b < m.heap.size := by first | omega | (simp; done) | (simp; omega)) (hn : R ≠ b := by omega) : w.cell? ⟨b, 0, none⟩ = some v0 ∧ w.frozen? ⟨b, 0, none⟩ = false ∧ w.cell? ⟨b, 1, none⟩ = some v1 ∧ w.frozen? ⟨b, 1, none⟩ = false ∧ w.cell? ⟨b, 2, none⟩ = some v2 ∧ w.frozen? ⟨b, 2, none⟩ = false ∧ w.cell? ⟨b, 3, none⟩ = some v3 ∧ w.frozen? ⟨b, 3, none⟩ = false ∧ w.cell? ⟨b, 4, none⟩ = some v4 ∧ w.frozen? ⟨b, 4, none⟩ = false ∧ w.cell? ⟨b, 5, none⟩ = some v5 ∧ w.frozen? ⟨b, 5, none⟩ = false ∧ w.cell? ⟨b, 6, none⟩ = some v6 ∧ w.frozen? ⟨b, 6, none⟩ = false ∧ w.cell? ⟨b, 7, none⟩ = some v7 ∧ w.frozen? ⟨b, 7, none⟩ = false := by
  obtain ⟨e0, f0, e1, f1, e2, f2, e3, f3, e4, f4, e5, f5, e6, f6, e7, f7⟩ := e
  exact ⟨gc k e0 h hn, gf k f0 h hn, gc k e1 h hn, gf k f1 h hn, gc k e2 h hn, gf k f2 h hn, gc k e3 h hn, gf k f3 h hn, gc k e4 h hn, gf k f4 h hn, gc k e5 h hn, gf k f5 h hn, gc k e6 h hn, gf k f6 h hn, gc k e7 h hn, gf k f7 h hn⟩

theorem k9 (b : Nat) (v0 v1 v2 v3 v4 v5 v6 v7 v8 : Value) {B : Nat} {m w : World} (k : Below B m w) (e : m.cell? ⟨b, 0, none⟩ = some v0 ∧ m.cell? ⟨b, 1, none⟩ = some v1 ∧ m.cell? ⟨b, 2, none⟩ = some v2 ∧ m.cell? ⟨b, 3, none⟩ = some v3 ∧ m.cell? ⟨b, 4, none⟩ = some v4 ∧ m.cell? ⟨b, 5, none⟩ = some v5 ∧ m.cell? ⟨b, 6, none⟩ = some v6 ∧ m.cell? ⟨b, 7, none⟩ = some v7 ∧ m.cell? ⟨b, 8, none⟩ = some v8) (h : b < B := by first | omega | (simp; done) | (simp; omega)) : w.cell? ⟨b, 0, none⟩ = some v0 ∧ w.cell? ⟨b, 1, none⟩ = some v1 ∧ w.cell? ⟨b, 2, none⟩ = some v2 ∧ w.cell? ⟨b, 3, none⟩ = some v3 ∧ w.cell? ⟨b, 4, none⟩ = some v4 ∧ w.cell? ⟨b, 5, none⟩ = some v5 ∧ w.cell? ⟨b, 6, none⟩ = some v6 ∧ w.cell? ⟨b, 7, none⟩ = some v7 ∧ w.cell? ⟨b, 8, none⟩ = some v8 := by
  obtain ⟨e0, e1, e2, e3, e4, e5, e6, e7, e8⟩ := e
  exact ⟨kc k e0 h, kc k e1 h, kc k e2 h, kc k e3 h, kc k e4 h, kc k e5 h, kc k e6 h, kc k e7 h, kc k e8 h⟩

theorem g9 (b : Nat) (v0 v1 v2 v3 v4 v5 v6 v7 v8 : Value) {R : Nat} {m w : World} (k : m.grownBy w (some R)) (e : m.cell? ⟨b, 0, none⟩ = some v0 ∧ m.cell? ⟨b, 1, none⟩ = some v1 ∧ m.cell? ⟨b, 2, none⟩ = some v2 ∧ m.cell? ⟨b, 3, none⟩ = some v3 ∧ m.cell? ⟨b, 4, none⟩ = some v4 ∧ m.cell? ⟨b, 5, none⟩ = some v5 ∧ m.cell? ⟨b, 6, none⟩ = some v6 ∧ m.cell? ⟨b, 7, none⟩ = some v7 ∧ m.cell? ⟨b, 8, none⟩ = some v8) (h : b < m.heap.size := by first | omega | (simp; done) | (simp; omega)) (hn : R ≠ b := by omega) : w.cell? ⟨b, 0, none⟩ = some v0 ∧ w.cell? ⟨b, 1, none⟩ = some v1 ∧ w.cell? ⟨b, 2, none⟩ = some v2 ∧ w.cell? ⟨b, 3, none⟩ = some v3 ∧ w.cell? ⟨b, 4, none⟩ = some v4 ∧ w.cell? ⟨b, 5, none⟩ = some v5 ∧ w.cell? ⟨b, 6, none⟩ = some v6 ∧ w.cell? ⟨b, 7, none⟩ = some v7 ∧ w.cell? ⟨b, 8, none⟩ = some v8 := by
  obtain ⟨e0, e1, e2, e3, e4, e5, e6, e7, e8⟩ := e
  exact ⟨gc k e0 h hn, gc k e1 h hn, gc k e2 h hn, gc k e3 h hn, gc k e4 h hn, gc k e5 h hn, gc k e6 h hn, gc k e7 h hn, gc k e8 h hn⟩

theorem k9f (b : Nat) (v0 v1 v2 v3 v4 v5 v6 v7 v8 : Value) {B : Nat} {m w : World} (k : Below B m w) (e : m.cell? ⟨b, 0, none⟩ = some v0 ∧ m.frozen? ⟨b, 0, none⟩ = false ∧ m.cell? ⟨b, 1, none⟩ = some v1 ∧ m.frozen? ⟨b, 1, none⟩ = false ∧ m.cell? ⟨b, 2, none⟩ = some v2 ∧ m.frozen? ⟨b, 2, none⟩ = false ∧ m.cell? ⟨b, 3, none⟩ = some v3 ∧ m.frozen? ⟨b, 3, none⟩ = false ∧ m.cell? ⟨b, 4, none⟩ = some v4 ∧ m.frozen? ⟨b, 4, none⟩ = false ∧ m.cell? ⟨b, 5, none⟩ = some v5 ∧ m.frozen? ⟨b, 5, none⟩ = false ∧ m.cell? ⟨b, 6, none⟩ = some v6 ∧ m.frozen? ⟨b, 6, none⟩ = false ∧ m.cell? ⟨b, 7, none⟩ = some v7 ∧ m.frozen? ⟨b, 7, none⟩ = false ∧ m.cell? ⟨b, 8, none⟩ = some v8 ∧ m.frozen? ⟨b, 8, none⟩ = false) (h : b < B := by first | omega | (simp; done) | (simp; omega)) : w.cell? ⟨b, 0, none⟩ = some v0 ∧ w.frozen? ⟨b, 0, none⟩ = false ∧ w.cell? ⟨b, 1, none⟩ = some v1 ∧ w.frozen? ⟨b, 1, none⟩ = false ∧ w.cell? ⟨b, 2, none⟩ = some v2 ∧ w.frozen? ⟨b, 2, none⟩ = false ∧ w.cell? ⟨b, 3, none⟩ = some v3 ∧ w.frozen? ⟨b, 3, none⟩ = false ∧ w.cell? ⟨b, 4, none⟩ = some v4 ∧ w.frozen? ⟨b, 4, none⟩ = false ∧ w.cell? ⟨b, 5, none⟩ = some v5 ∧ w.frozen? ⟨b, 5, none⟩ = false ∧ w.cell? ⟨b, 6, none⟩ = some v6 ∧ w.frozen? ⟨b, 6, none⟩ = false ∧ w.cell? ⟨b, 7, none⟩ = some v7 ∧ w.frozen? ⟨b, 7, none⟩ = false ∧ w.cell? ⟨b, 8, none⟩ = some v8 ∧ w.frozen? ⟨b, 8, none⟩ = false := by
  obtain ⟨e0, f0, e1, f1, e2, f2, e3, f3, e4, f4, e5, f5, e6, f6, e7, f7, e8, f8⟩ := e
  exact ⟨kc k e0 h, kf k f0 h, kc k e1 h, kf k f1 h, kc k e2 h, kf k f2 h, kc k e3 h, kf k f3 h, kc k e4 h, kf k f4 h, kc k e5 h, kf k f5 h, kc k e6 h, kf k f6 h, kc k e7 h, kf k f7 h, kc k e8 h, kf k f8 h⟩

theorem g9f (b : Nat) (v0 v1 v2 v3 v4 v5 v6 v7 v8 : Value) {R : Nat} {m w : World} (k : m.grownBy w (some R)) (e : m.cell? ⟨b, 0, none⟩ = some v0 ∧ m.frozen? ⟨b, 0, none⟩ = false ∧ m.cell? ⟨b, 1, none⟩ = some v1 ∧ m.frozen? ⟨b, 1, none⟩ = false ∧ m.cell? ⟨b, 2, none⟩ = some v2 ∧ m.frozen? ⟨b, 2, none⟩ = false ∧ m.cell? ⟨b, 3, none⟩ = some v3 ∧ m.frozen? ⟨b, 3, none⟩ = false ∧ m.cell? ⟨b, 4, none⟩ = some v4 ∧ m.frozen? ⟨b, 4, none⟩ = false ∧ m.cell? ⟨b, 5, none⟩ = some v5 ∧ m.frozen? ⟨b, 5, none⟩ = false ∧ m.cell? ⟨b, 6, none⟩ = some v6 ∧ m.frozen? ⟨b, 6, none⟩ = false ∧ m.cell? ⟨b, 7, none⟩ = some v7 ∧ m.frozen? ⟨b, 7, none⟩ = false ∧ m.cell? ⟨b, 8, none⟩ = some v8 ∧ m.frozen? ⟨b, 8, none⟩ = false) (h : b < m.heap.size := by first | omega | (simp; done) | (simp; omega)) (hn : R ≠ b := by omega) : w.cell? ⟨b, 0, none⟩ = some v0 ∧ w.frozen? ⟨b, 0, none⟩ = false ∧ w.cell? ⟨b, 1, none⟩ = some v1 ∧ w.frozen? ⟨b, 1, none⟩ = false ∧ w.cell? ⟨b, 2, none⟩ = some v2 ∧ w.frozen? ⟨b, 2, none⟩ = false ∧ w.cell? ⟨b, 3, none⟩ = some v3 ∧ w.frozen? ⟨b, 3, none⟩ = false ∧ w.cell? ⟨b, 4, none⟩ = some v4 ∧ w.frozen? ⟨b, 4, none⟩ = false ∧ w.cell? ⟨b, 5, none⟩ = some v5 ∧ w.frozen? ⟨b, 5, none⟩ = false ∧ w.cell? ⟨b, 6, none⟩ = some v6 ∧ w.frozen? ⟨b, 6, none⟩ = false ∧ w.cell? ⟨b, 7, none⟩ = some v7 ∧ w.frozen? ⟨b, 7, none⟩ = false ∧ w.cell? ⟨b, 8, none⟩ = some v8 ∧ w.frozen? ⟨b, 8, none⟩ = false := by
  obtain ⟨e0, f0, e1, f1, e2, f2, e3, f3, e4, f4, e5, f5, e6, f6, e7, f7, e8, f8⟩ := e
  exact ⟨gc k e0 h hn, gf k f0 h hn, gc k e1 h hn, gf k f1 h hn, gc k e2 h hn, gf k f2 h hn, gc k e3 h hn, gf k f3 h hn, gc k e4 h hn, gf k f4 h hn, gc k e5 h hn, gf k f5 h hn, gc k e6 h hn, gf k f6 h hn, gc k e7 h hn, gf k f7 h hn, gc k e8 h hn, gf k f8 h hn⟩

theorem k10 (b : Nat) (v0 v1 v2 v3 v4 v5 v6 v7 v8 v9 : Value) {B : Nat} {m w : World} (k : Below B m w) (e : m.cell? ⟨b, 0, none⟩ = some v0 ∧ m.cell? ⟨b, 1, none⟩ = some v1 ∧ m.cell? ⟨b, 2, none⟩ = some v2 ∧ m.cell? ⟨b, 3, none⟩ = some v3 ∧ m.cell? ⟨b, 4, none⟩ = some v4 ∧ m.cell? ⟨b, 5, none⟩ = some v5 ∧ m.cell? ⟨b, 6, none⟩ = some v6 ∧ m.cell? ⟨b, 7, none⟩ = some v7 ∧ m.cell? ⟨b, 8, none⟩ = some v8 ∧ m.cell? ⟨b, 9, none⟩ = some v9) (h : b < B := by first | omega | (simp; done) | (simp; omega)) : w.cell? ⟨b, 0, none⟩ = some v0 ∧ w.cell? ⟨b, 1, none⟩ = some v1 ∧ w.cell? ⟨b, 2, none⟩ = some v2 ∧ w.cell? ⟨b, 3, none⟩ = some v3 ∧ w.cell? ⟨b, 4, none⟩ = some v4 ∧ w.cell? ⟨b, 5, none⟩ = some v5 ∧ w.cell? ⟨b, 6, none⟩ = some v6 ∧ w.cell? ⟨b, 7, none⟩ = some v7 ∧ w.cell? ⟨b, 8, none⟩ = some v8 ∧ w.cell? ⟨b, 9, none⟩ = some v9 := by
  obtain ⟨e0, e1, e2, e3, e4, e5, e6, e7, e8, e9⟩ := e
  exact ⟨kc k e0 h, kc k e1 h, kc k e2 h, kc k e3 h, kc k e4 h, kc k e5 h, kc k e6 h, kc k e7 h, kc k e8 h, kc k e9 h⟩

theorem g10 (b : Nat) (v0 v1 v2 v3 v4 v5 v6 v7 v8 v9 : Value) {R : Nat} {m w : World} (k : m.grownBy w (some R)) (e : m.cell? ⟨b, 0, none⟩ = some v0 ∧ m.cell? ⟨b, 1, none⟩ = some v1 ∧ m.cell? ⟨b, 2, none⟩ = some v2 ∧ m.cell? ⟨b, 3, none⟩ = some v3 ∧ m.cell? ⟨b, 4, none⟩ = some v4 ∧ m.cell? ⟨b, 5, none⟩ = some v5 ∧ m.cell? ⟨b, 6, none⟩ = some v6 ∧ m.cell? ⟨b, 7, none⟩ = some v7 ∧ m.cell? ⟨b, 8, none⟩ = some v8 ∧ m.cell? ⟨b, 9, none⟩ = some v9) (h : b < m.heap.size := by first | omega | (simp; done) | (simp; omega)) (hn : R ≠ b := by omega) : w.cell? ⟨b, 0, none⟩ = some v0 ∧ w.cell? ⟨b, 1, none⟩ = some v1 ∧ w.cell? ⟨b, 2, none⟩ = some v2 ∧ w.cell? ⟨b, 3, none⟩ = some v3 ∧ w.cell? ⟨b, 4, none⟩ = some v4 ∧ w.cell? ⟨b, 5, none⟩ = some v5 ∧ w.cell? ⟨b, 6, none⟩ = some v6 ∧ w.cell? ⟨b, 7, none⟩ = some v7 ∧ w.cell? ⟨b, 8, none⟩ = some v8 ∧ w.cell? ⟨b, 9, none⟩ = some v9 := by
  obtain ⟨e0, e1, e2, e3, e4, e5, e6, e7, e8, e9⟩ := e
  exact ⟨gc k e0 h hn, gc k e1 h hn, gc k e2 h hn, gc k e3 h hn, gc k e4 h hn, gc k e5 h hn, gc k e6 h hn, gc k e7 h hn, gc k e8 h hn, gc k e9 h hn⟩

theorem k10f (b : Nat) (v0 v1 v2 v3 v4 v5 v6 v7 v8 v9 : Value) {B : Nat} {m w : World} (k : Below B m w) (e : m.cell? ⟨b, 0, none⟩ = some v0 ∧ m.frozen? ⟨b, 0, none⟩ = false ∧ m.cell? ⟨b, 1, none⟩ = some v1 ∧ m.frozen? ⟨b, 1, none⟩ = false ∧ m.cell? ⟨b, 2, none⟩ = some v2 ∧ m.frozen? ⟨b, 2, none⟩ = false ∧ m.cell? ⟨b, 3, none⟩ = some v3 ∧ m.frozen? ⟨b, 3, none⟩ = false ∧ m.cell? ⟨b, 4, none⟩ = some v4 ∧ m.frozen? ⟨b, 4, none⟩ = false ∧ m.cell? ⟨b, 5, none⟩ = some v5 ∧ m.frozen? ⟨b, 5, none⟩ = false ∧ m.cell? ⟨b, 6, none⟩ = some v6 ∧ m.frozen? ⟨b, 6, none⟩ = false ∧ m.cell? ⟨b, 7, none⟩ = some v7 ∧ m.frozen? ⟨b, 7, none⟩ = false ∧ m.cell? ⟨b, 8, none⟩ = some v8 ∧ m.frozen? ⟨b, 8, none⟩ = false ∧ m.cell? ⟨b, 9, none⟩ = some v9 ∧ m.frozen? ⟨b, 9, none⟩ = false) (h : b < B := by first | omega | (simp; done) | (simp; omega)) : w.cell? ⟨b, 0, none⟩ = some v0 ∧ w.frozen? ⟨b, 0, none⟩ = false ∧ w.cell? ⟨b, 1, none⟩ = some v1 ∧ w.frozen? ⟨b, 1, none⟩ = false ∧ w.cell? ⟨b, 2, none⟩ = some v2 ∧ w.frozen? ⟨b, 2, none⟩ = false ∧ w.cell? ⟨b, 3, none⟩ = some v3 ∧ w.frozen? ⟨b, 3, none⟩ = false ∧ w.cell? ⟨b, 4, none⟩ = some v4 ∧ w.frozen? ⟨b, 4, none⟩ = false ∧ w.cell? ⟨b, 5, none⟩ = some v5 ∧ w.frozen? ⟨b, 5, none⟩ = false ∧ w.cell? ⟨b, 6, none⟩ = some v6 ∧ w.frozen? ⟨b, 6, none⟩ = false ∧ w.cell? ⟨b, 7, none⟩ = some v7 ∧ w.frozen? ⟨b, 7, none⟩ = false ∧ w.cell? ⟨b, 8, none⟩ = some v8 ∧ w.frozen? ⟨b, 8, none⟩ = false ∧ w.cell? ⟨b, 9, none⟩ = some v9 ∧ w.frozen? ⟨b, 9, none⟩ = false := by
  obtain ⟨e0, f0, e1, f1, e2, f2, e3, f3, e4, f4, e5, f5, e6, f6, e7, f7, e8, f8, e9, f9⟩ := e
  exact ⟨kc k e0 h, kf k f0 h, kc k e1 h, kf k f1 h, kc k e2 h, kf k f2 h, kc k e3 h, kf k f3 h, kc k e4 h, kf k f4 h, kc k e5 h, kf k f5 h, kc k e6 h, kf k f6 h, kc k e7 h, kf k f7 h, kc k e8 h, kf k f8 h, kc k e9 h, kf k f9 h⟩

theorem g10f (b : Nat) (v0 v1 v2 v3 v4 v5 v6 v7 v8 v9 : Value) {R : Nat} {m w : World} (k : m.grownBy w (some R)) (e : m.cell? ⟨b, 0, none⟩ = some v0 ∧ m.frozen? ⟨b, 0, none⟩ = false ∧ m.cell? ⟨b, 1, none⟩ = some v1 ∧ m.frozen? ⟨b, 1, none⟩ = false ∧ m.cell? ⟨b, 2, none⟩ = some v2 ∧ m.frozen? ⟨b, 2, none⟩ = false ∧ m.cell? ⟨b, 3, none⟩ = some v3 ∧ m.frozen? ⟨b, 3, none⟩ = false ∧ m.cell? ⟨b, 4, none⟩ = some v4 ∧ m.frozen? ⟨b, 4, none⟩ = false ∧ m.cell? ⟨b, 5, none⟩ = some v5 ∧ m.frozen? ⟨b, 5, none⟩ = false ∧ m.cell? ⟨b, 6, none⟩ = some v6 ∧ m.frozen? ⟨b, 6, none⟩ = false ∧ m.cell? ⟨b, 7, none⟩ = some v7 ∧ m.frozen? ⟨b, 7, none⟩ = false ∧ m.cell? ⟨b, 8, none⟩ = some v8 ∧ m.frozen? ⟨b, 8, none⟩ = false ∧ m.cell? ⟨b, 9, none⟩ = some v9 ∧ m.frozen? ⟨b, 9, none⟩ = false) (h : b < m.heap.size := by first | omega | (simp; done) | (simp; omega)) (hn : R ≠ b := by omega) : w.cell? ⟨b, 0, none⟩ = some v0 ∧ w.frozen? ⟨b, 0, none⟩ = false ∧ w.cell? ⟨b, 1, none⟩ = some v1 ∧ w.frozen? ⟨b, 1, none⟩ = false ∧ w.cell? ⟨b, 2, none⟩ = some v2 ∧ w.frozen? ⟨b, 2, none⟩ = false ∧ w.cell? ⟨b, 3, none⟩ = some v3 ∧ w.frozen? ⟨b, 3, none⟩ = false ∧ w.cell? ⟨b, 4, none⟩ = some v4 ∧ w.frozen? ⟨b, 4, none⟩ = false ∧ w.cell? ⟨b, 5, none⟩ = some v5 ∧ w.frozen? ⟨b, 5, none⟩ = false ∧ w.cell? ⟨b, 6, none⟩ = some v6 ∧ w.frozen? ⟨b, 6, none⟩ = false ∧ w.cell? ⟨b, 7, none⟩ = some v7 ∧ w.frozen? ⟨b, 7, none⟩ = false ∧ w.cell? ⟨b, 8, none⟩ = some v8 ∧ w.frozen? ⟨b, 8, none⟩ = false ∧ w.cell? ⟨b, 9, none⟩ = some v9 ∧ w.frozen? ⟨b, 9, none⟩ = false := by
  obtain ⟨e0, f0, e1, f1, e2, f2, e3, f3, e4, f4, e5, f5, e6, f6, e7, f7, e8, f8, e9, f9⟩ := e
  exact ⟨gc k e0 h hn, gf k f0 h hn, gc k e1 h hn, gf k f1 h hn, gc k e2 h hn, gf k f2 h hn, gc k e3 h hn, gf k f3 h hn, gc k e4 h hn, gf k f4 h hn, gc k e5 h hn, gf k f5 h hn, gc k e6 h hn, gf k f6 h hn, gc k e7 h hn, gf k f7 h hn, gc k e8 h hn, gf k f8 h hn, gc k e9 h hn, gf k f9 h hn⟩

theorem k11 (b : Nat) (v0 v1 v2 v3 v4 v5 v6 v7 v8 v9 v10 : Value) {B : Nat} {m w : World} (k : Below B m w) (e : m.cell? ⟨b, 0, none⟩ = some v0 ∧ m.cell? ⟨b, 1, none⟩ = some v1 ∧ m.cell? ⟨b, 2, none⟩ = some v2 ∧ m.cell? ⟨b, 3, none⟩ = some v3 ∧ m.cell? ⟨b, 4, none⟩ = some v4 ∧ m.cell? ⟨b, 5, none⟩ = some v5 ∧ m.cell? ⟨b, 6, none⟩ = some v6 ∧ m.cell? ⟨b, 7, none⟩ = some v7 ∧ m.cell? ⟨b, 8, none⟩ = some v8 ∧ m.cell? ⟨b, 9, none⟩ = some v9 ∧ m.cell? ⟨b, 10, none⟩ = some v10) (h : b < B := by first | omega | (simp; done) | (simp; omega)) : w.cell? ⟨b, 0, none⟩ = some v0 ∧ w.cell? ⟨b, 1, none⟩ = some v1 ∧ w.cell? ⟨b, 2, none⟩ = some v2 ∧ w.cell? ⟨b, 3, none⟩ = some v3 ∧ w.cell? ⟨b, 4, none⟩ = some v4 ∧ w.cell? ⟨b, 5, none⟩ = some v5 ∧ w.cell? ⟨b, 6, none⟩ = some v6 ∧ w.cell? ⟨b, 7, none⟩ = some v7 ∧ w.cell? ⟨b, 8, none⟩ = some v8 ∧ w.cell? ⟨b, 9, none⟩ = some v9 ∧ w.cell? ⟨b, 10, none⟩ = some v10 := by
  obtain ⟨e0, e1, e2, e3, e4, e5, e6, e7, e8, e9, e10⟩ := e
  exact ⟨kc k e0 h, kc k e1 h, kc k e2 h, kc k e3 h, kc k e4 h, kc k e5 h, kc k e6 h, kc k e7 h, kc k e8 h, kc k e9 h, kc k e10 h⟩

theorem g11 (b : Nat) (v0 v1 v2 v3 v4 v5 v6 v7 v8 v9 v10 : Value) {R : Nat} {m w : World} (k : m.grownBy w (some R)) (e : m.cell? ⟨b, 0, none⟩ = some v0 ∧ m.cell? ⟨b, 1, none⟩ = some v1 ∧ m.cell? ⟨b, 2, none⟩ = some v2 ∧ m.cell? ⟨b, 3, none⟩ = some v3 ∧ m.cell? ⟨b, 4, none⟩ = some v4 ∧ m.cell? ⟨b, 5, none⟩ = some v5 ∧ m.cell? ⟨b, 6, none⟩ = some v6 ∧ m.cell? ⟨b, 7, none⟩ = some v7 ∧ m.cell? ⟨b, 8, none⟩ = some v8 ∧ m.cell? ⟨b, 9, none⟩ = some v9 ∧ m.cell? ⟨b, 10, none⟩ = some v10) (h : b < m.heap.size := by first | omega | (simp; done) | (simp; omega)) (hn : R ≠ b := by omega) : w.cell? ⟨b, 0, none⟩ = some v0 ∧ w.cell? ⟨b, 1, none⟩ = some v1 ∧ w.cell? ⟨b, 2, none⟩ = some v2 ∧ w.cell? ⟨b, 3, none⟩ = some v3 ∧ w.cell? ⟨b, 4, none⟩ = some v4 ∧ w.cell? ⟨b, 5, none⟩ = some v5 ∧ w.cell? ⟨b, 6, none⟩ = some v6 ∧ w.cell? ⟨b, 7, none⟩ = some v7 ∧ w.cell? ⟨b, 8, none⟩ = some v8 ∧ w.cell? ⟨b, 9, none⟩ = some v9 ∧ w.cell? ⟨b, 10, none⟩ = some v10 := by
  obtain ⟨e0, e1, e2, e3, e4, e5, e6, e7, e8, e9, e10⟩ := e
  exact ⟨gc k e0 h hn, gc k e1 h hn, gc k e2 h hn, gc k e3 h hn, gc k e4 h hn, gc k e5 h hn, gc k e6 h hn, gc k e7 h hn, gc k e8 h hn, gc k e9 h hn, gc k e10 h hn⟩

theorem k11f (b : Nat) (v0 v1 v2 v3 v4 v5 v6 v7 v8 v9 v10 : Value) {B : Nat} {m w : World} (k : Below B m w) (e : m.cell? ⟨b, 0, none⟩ = some v0 ∧ m.frozen? ⟨b, 0, none⟩ = false ∧ m.cell? ⟨b, 1, none⟩ = some v1 ∧ m.frozen? ⟨b, 1, none⟩ = false ∧ m.cell? ⟨b, 2, none⟩ = some v2 ∧ m.frozen? ⟨b, 2, none⟩ = false ∧ m.cell? ⟨b, 3, none⟩ = some v3 ∧ m.frozen? ⟨b, 3, none⟩ = false ∧ m.cell? ⟨b, 4, none⟩ = some v4 ∧ m.frozen? ⟨b, 4, none⟩ = false ∧ m.cell? ⟨b, 5, none⟩ = some v5 ∧ m.frozen? ⟨b, 5, none⟩ = false ∧ m.cell? ⟨b, 6, none⟩ = some v6 ∧ m.frozen? ⟨b, 6, none⟩ = false ∧ m.cell? ⟨b, 7, none⟩ = some v7 ∧ m.frozen? ⟨b, 7, none⟩ = false ∧ m.cell? ⟨b, 8, none⟩ = some v8 ∧ m.frozen? ⟨b, 8, none⟩ = false ∧ m.cell? ⟨b, 9, none⟩ = some v9 ∧ m.frozen? ⟨b, 9, none⟩ = false ∧ m.cell? ⟨b, 10, none⟩ = some v10 ∧ m.frozen? ⟨b, 10, none⟩ = false) (h : b < B := by first | omega | (simp; done) | (simp; omega)) : w.cell? ⟨b, 0, none⟩ = some v0 ∧ w.frozen? ⟨b, 0, none⟩ = false ∧ w.cell? ⟨b, 1, none⟩ = some v1 ∧ w.frozen? ⟨b, 1, none⟩ = false ∧ w.cell? ⟨b, 2, none⟩ = some v2 ∧ w.frozen? ⟨b, 2, none⟩ = false ∧ w.cell? ⟨b, 3, none⟩ = some v3 ∧ w.frozen? ⟨b, 3, none⟩ = false ∧ w.cell? ⟨b, 4, none⟩ = some v4 ∧ w.frozen? ⟨b, 4, none⟩ = false ∧ w.cell? ⟨b, 5, none⟩ = some v5 ∧ w.frozen? ⟨b, 5, none⟩ = false ∧ w.cell? ⟨b, 6, none⟩ = some v6 ∧ w.frozen? ⟨b, 6, none⟩ = false ∧ w.cell? ⟨b, 7, none⟩ = some v7 ∧ w.frozen? ⟨b, 7, none⟩ = false ∧ w.cell? ⟨b, 8, none⟩ = some v8 ∧ w.frozen? ⟨b, 8, none⟩ = false ∧ w.cell? ⟨b, 9, none⟩ = some v9 ∧ w.frozen? ⟨b, 9, none⟩ = false ∧ w.cell? ⟨b, 10, none⟩ = some v10 ∧ w.frozen? ⟨b, 10, none⟩ = false := by
  obtain ⟨e0, f0, e1, f1, e2, f2, e3, f3, e4, f4, e5, f5, e6, f6, e7, f7, e8, f8, e9, f9, e10, f10⟩ := e
  exact ⟨kc k e0 h, kf k f0 h, kc k e1 h, kf k f1 h, kc k e2 h, kf k f2 h, kc k e3 h, kf k f3 h, kc k e4 h, kf k f4 h, kc k e5 h, kf k f5 h, kc k e6 h, kf k f6 h, kc k e7 h, kf k f7 h, kc k e8 h, kf k f8 h, kc k e9 h, kf k f9 h, kc k e10 h, kf k f10 h⟩

theorem g11f (b : Nat) (v0 v1 v2 v3 v4 v5 v6 v7 v8 v9 v10 : Value) {R : Nat} {m w : World} (k : m.grownBy w (some R)) (e : m.cell? ⟨b, 0, none⟩ = some v0 ∧ m.frozen? ⟨b, 0, none⟩ = false ∧ m.cell? ⟨b, 1, none⟩ = some v1 ∧ m.frozen? ⟨b, 1, none⟩ = false ∧ m.cell? ⟨b, 2, none⟩ = some v2 ∧ m.frozen? ⟨b, 2, none⟩ = false ∧ m.cell? ⟨b, 3, none⟩ = some v3 ∧ m.frozen? ⟨b, 3, none⟩ = false ∧ m.cell? ⟨b, 4, none⟩ = some v4 ∧ m.frozen? ⟨b, 4, none⟩ = false ∧ m.cell? ⟨b, 5, none⟩ = some v5 ∧ m.frozen? ⟨b, 5, none⟩ = false ∧ m.cell? ⟨b, 6, none⟩ = some v6 ∧ m.frozen? ⟨b, 6, none⟩ = false ∧ m.cell? ⟨b, 7, none⟩ = some v7 ∧ m.frozen? ⟨b, 7, none⟩ = false ∧ m.cell? ⟨b, 8, none⟩ = some v8 ∧ m.frozen? ⟨b, 8, none⟩ = false ∧ m.cell? ⟨b, 9, none⟩ = some v9 ∧ m.frozen? ⟨b, 9, none⟩ = false ∧ m.cell? ⟨b, 10, none⟩ = some v10 ∧ m.frozen? ⟨b, 10, none⟩ = false) (h : b < m.heap.size := by first | omega | (simp; done) | (simp; omega)) (hn : R ≠ b := by omega) : w.cell? ⟨b, 0, none⟩ = some v0 ∧ w.frozen? ⟨b, 0, none⟩ = false ∧ w.cell? ⟨b, 1, none⟩ = some v1 ∧ w.frozen? ⟨b, 1, none⟩ = false ∧ w.cell? ⟨b, 2, none⟩ = some v2 ∧ w.frozen? ⟨b, 2, none⟩ = false ∧ w.cell? ⟨b, 3, none⟩ = some v3 ∧ w.frozen? ⟨b, 3, none⟩ = false ∧ w.cell? ⟨b, 4, none⟩ = some v4 ∧ w.frozen? ⟨b, 4, none⟩ = false ∧ w.cell? ⟨b, 5, none⟩ = some v5 ∧ w.frozen? ⟨b, 5, none⟩ = false ∧ w.cell? ⟨b, 6, none⟩ = some v6 ∧ w.frozen? ⟨b, 6, none⟩ = false ∧ w.cell? ⟨b, 7, none⟩ = some v7 ∧ w.frozen? ⟨b, 7, none⟩ = false ∧ w.cell? ⟨b, 8, none⟩ = some v8 ∧ w.frozen? ⟨b, 8, none⟩ = false ∧ w.cell? ⟨b, 9, none⟩ = some v9 ∧ w.frozen? ⟨b, 9, none⟩ = false ∧ w.cell? ⟨b, 10, none⟩ = some v10 ∧ w.frozen? ⟨b, 10, none⟩ = false := by
  obtain ⟨e0, f0, e1, f1, e2, f2, e3, f3, e4, f4, e5, f5, e6, f6, e7, f7, e8, f8, e9, f9, e10, f10⟩ := e
  exact ⟨gc k e0 h hn, gf k f0 h hn, gc k e1 h hn, gf k f1 h hn, gc k e2 h hn, gf k f2 h hn, gc k e3 h hn, gf k f3 h hn, gc k e4 h hn, gf k f4 h hn, gc k e5 h hn, gf k f5 h hn, gc k e6 h hn, gf k f6 h hn, gc k e7 h hn, gf k f7 h hn, gc k e8 h hn, gf k f8 h hn, gc k e9 h hn, gf k f9 h hn, gc k e10 h hn, gf k f10 h hn⟩
end Go.Proofs.Ytjmjnkilgoelbaa

namespace Go.Proofs.Ytjmjnkilgoelbaa
open Go.RowKit

/-- An array's cells, overwritten from a place on. -/
def ovw (cur : Array Value) : Nat → List Value → Array Value
  | _, [] => cur
  | o, v :: r => ovw (cur.setIfInBounds o v) (o + 1) r

theorem ovw_size : ∀ (vs : List Value) (cur : Array Value) (o : Nat), (ovw cur o vs).size = cur.size
  | [], _, _ => rfl
  | v :: r, cur, o => by rw [ovw, ovw_size r]; simp

theorem ovw_get : ∀ (vs : List Value) (cur : Array Value) (o j : Nat), o + vs.length ≤ cur.size → (ovw cur o vs)[j]? = if j < o then cur[j]? else if j < o + vs.length then vs[j - o]? else cur[j]?
  | [], cur, o, j, h => by
    rw [ovw]
    split
    · rfl
    · rw [if_neg (by simp; omega)]
  | v :: r, cur, o, j, h => by
    rw [List.length_cons] at h
    rw [ovw, ovw_get r _ _ _ (by simp; omega), Array.getElem?_setIfInBounds, List.length_cons]
    by_cases h1 : j < o
    · rw [if_pos (by omega), if_pos h1, if_neg (by omega)]
    · rw [if_neg h1]
      by_cases h2 : o = j
      · subst h2
        rw [if_pos (by omega), if_pos rfl, if_pos (by omega), if_pos (by omega)]
        simp
      · rw [if_neg (by omega), if_neg h2]
        by_cases h3 : j < o + 1 + r.length
        · rw [if_pos h3, if_pos (by omega), show j - o = (j - (o + 1)) + 1 by omega]
          simp
        · rw [if_neg h3, if_neg (by omega)]

/-- The cells of a block that is a plain row. -/
def RowAt (w : World) (g : Nat) (e : TypeId) (cur : Array Value) : Prop := w.heap[g]? = some (.cells cur e (0, 0))

theorem RowAt.lt {w : World} {g : Nat} {e : TypeId} {cur : Array Value} (h : RowAt w g e cur) : g < w.heap.size := (Array.getElem?_eq_some_iff.1 h).1

theorem RowAt.cell {w : World} {g : Nat} {e : TypeId} {cur : Array Value} (h : RowAt w g e cur) (o : Nat) : w.cell? ⟨g, o, none⟩ = cur[o]? := by
  unfold RowAt at h
  simp [World.cell?, h]

theorem RowAt.frozen {w : World} {g : Nat} {e : TypeId} {cur : Array Value} (h : RowAt w g e cur) (o : Nat) : w.frozen? ⟨g, o, none⟩ = false := by
  unfold RowAt at h
  simp [World.frozen?, h]

theorem RowAt.shape {w : World} {g : Nat} {e : TypeId} {cur : Array Value} (h : RowAt w g e cur) : w.shape? g = some (e, cur.size) := by
  unfold RowAt at h
  simp [World.shape?, h]

theorem RowAt.set {w : World} {g : Nat} {e : TypeId} {cur : Array Value} (h : RowAt w g e cur) (o : Nat) (v : Value) : RowAt (w.setCell ⟨g, o, none⟩ v) g e (cur.setIfInBounds o v) := by
  unfold RowAt at h ⊢
  simp [World.setCell, Array.getElem?_modify, h]

theorem RowAt.sets {g : Nat} {e : TypeId} : ∀ (vs : List Value) {w : World} {cur : Array Value} (o : Nat), RowAt w g e cur → RowAt (w.setCells g o vs) g e (ovw cur o vs)
  | [], _, _, _, h => h
  | v :: r, _, _, o, h => RowAt.sets r (o + 1) (h.set o v)

theorem sets_other {g : Nat} : ∀ (vs : List Value) (w : World) (o : Nat) {q : Nat}, q ≠ g → (w.setCells g o vs).heap[q]? = w.heap[q]?
  | [], _, _, _, _ => rfl
  | _ :: r, _, o, _, h => (sets_other r _ (o + 1) h).trans (Below.heap_setCell _ _ _ _ h)

theorem sets_size {g : Nat} : ∀ (vs : List Value) (w : World) (o : Nat), (w.setCells g o vs).heap.size = w.heap.size
  | [], _, _ => rfl
  | v :: r, w, o => (sets_size r _ (o + 1)).trans (by simp)

theorem sets_below {g B : Nat} (hB : B ≤ g) : ∀ (vs : List Value) {a w : World} (o : Nat), Below B a w → Below B a (w.setCells g o vs)
  | [], _, _, _, h => h
  | v :: r, _, _, o, h => sets_below hB r (o + 1) (h.setCell hB v)

theorem sets_drawn {g : Nat} : ∀ (vs : List Value) (w : World) (o : Nat), (w.drew.setCells g o vs) = (w.setCells g o vs).drew
  | [], _, _ => rfl
  | v :: r, w, o => sets_drawn r (w.setCell ⟨g, o, none⟩ v) (o + 1)

/-- copy, whatever the elements' size. -/
theorem run_copy_row {P : Program} (w : World) (dT sT ty elem : TypeId) (b o dLen dCap : Nat) (a : Addr) (sLen sCap : Nat) (cs : List Value) {i : TypeInfo} (hi : P.info? elem = some i)
    (hu : P.underlying dT = some (.slice elem)) (hn : cs.length = Nat.min sLen dLen * i.size)
    (hsrc : ∀ j v, cs[j]? = some v → w.cell? (a.add j) = some v) (hc : ∀ j, j < cs.length → (w.cell? ⟨b, o + j, none⟩).isSome = true) (hf : ∀ j, j < cs.length → w.frozen? ⟨b, o + j, none⟩ = false) (h1 : ∀ v ∈ cs, v.oneCell' = true) :
    (Builtin.copy_ #[dT, sT] ty #[.slice (some ⟨b, o, none⟩) dLen dCap, .slice (some a) sLen sCap]).run P w = .ok (goInt (Nat.min sLen dLen : Nat)) (w.setCells b o cs) := by
  have hl := run_firstCells_some (P := P) w i.size (Nat.min sLen dLen) a sLen sCap cs hn hsrc
  have hst := run_storeCells_cells (P := P) b o cs 0 w (by simpa using hc) (by simpa using hf) h1
  simp only [Builtin.firstCells] at hl
  simp [Builtin.copy_, run_underlying hu, Builtin.lenOf, Builtin.firstCells, sizeOf, typeInfo, hi, hl, hst]

/-- append(s[:k], make([]T, n)..): there is no room: a new row. -/
theorem run_append_make {P : Program} (w : World) (t tn ty e : TypeId) (i : TypeInfo) (z : Value) (kn kk : IntKind) (ht : P.underlying t = some (.slice e)) (htn : P.underlying tn = some (.int kn)) (hi : P.info? e = some i) (hz : i.zero = some z)
    (b : Addr) (sLen sCap : Nat) (olds : List Value) (hlo : olds.length = sLen * i.size) (holds : ∀ j v, olds[j]? = some v → w.cell? (b.add j) = some v)
    (n : Nat) (h0 : 0 < n) (hs : 0 < i.size) (hg : sCap < sLen + n) (h63 : ((sLen + n : Nat) : Int) ≤ 9223372036854775807) (hbig : (sLen + n) * i.bytes ≤ 140737488355328) :
    (Builtin.append_ #[t, tn] ty #[.slice (some b) sLen sCap, .int kk n]).run P w =
      .ok (.slice (some ⟨w.heap.size, 0, none⟩) (sLen + n) (grownCap w (sLen + n) sCap e))
        (w.drew.alloc (.cells (olds.toArray ++ Builtin.zeroCells z.cells n ++ Builtin.zeroCells z.cells (grownCap w (sLen + n) sCap e - (sLen + n))) e)) := by
  have hn : ¬ (sLen + n ≤ sCap) := by omega
  have hn0 : n ≠ 0 := by omega
  have hw : IntKind.i64.wrap (n : Int) = n := by rw [IntKind.wrap_i64]; omega
  have h63' : ¬ (9223372036854775807 < ((sLen : Int) + (n : Int))) := by omega
  have hfit := growslice_fits hg hbig
  have h48' : ¬ (281474976710656 < Builtin.nextslicecap (sLen + n) sCap * i.bytes) := by omega
  have hnb : n * i.bytes ≤ (sLen + n) * i.bytes := Nat.mul_le_mul_right _ (by omega)
  have h48i : ¬ (281474976710656 < (n : Int) * (i.bytes : Int)) := by
    rw [← Int.natCast_mul]
    omega
  have hneg : ¬ ((n : Int) < 0) := by omega
  have hns : ¬ (n * i.size = 0) := Nat.mul_ne_zero hn0 (by omega)
  have hfo := run_firstCells_some (P := P) w.drew i.size sLen b sLen sCap olds hlo (by simpa using holds)
  simp [Builtin.append_, run_underlying ht, run_underlying htn, sizeOf, typeInfo, zeroValue, hi, hz, asInt, asIntOf, hw, hn, hneg, hns, h63', h48', h48i, Question.forced, hfo, newRow, grownCap]

theorem wpList_copy_run {P : Program} {w : World} {ops : Array Oper} {rest : List Oper} {o : Oper} {a : Act} {Q : Exit → Act → World → Prop} (hgd : o.guard = none) (d s : Operand) (t t' : TypeId)
    (ho : o.op = .call { callee := .builtin .copy, args := #[d, s], argTypes := #[t, t'] }) {v u v' : Value} {w' : World} (hd : a.eval d = v) (hs : a.eval s = u)
    (hr : (Builtin.copy_ #[t, t'] o.type #[v, u]).run P w = .ok v' w') (h : wpList P ops Q rest (a.put o.dst v') w') : wpList P ops Q (o :: rest) a w :=
  wpList_plain hgd fun K hK => by
    unfold Oper.wp execOp
    simp only [ho, resolve, invoke, builtin, Sem.run_bind, Sem.run_pure, Result.andThen_ok, List.map_toArray, List.map_cons, List.map_nil, hd, hs, hr]
    exact hK _ _ h

theorem copy_step {P : Program} {w : World} {ops : Array Oper} {o : Oper} {a : Act} {K : Act → World → Prop} {Q : Exit → Act → World → Prop} {E : Prop} (hgd : o.guard = none) (d s : Operand) (t t' : TypeId)
    (ho : o.op = .call { callee := .builtin .copy, args := #[d, s], argTypes := #[t, t'] }) {v u v' : Value} {w' : World} (hd : a.eval d = v) (hs : a.eval s = u)
    (hr : (Builtin.copy_ #[t, t'] o.type #[v, u]).run P w = .ok v' w') (h : K (a.put o.dst v') w') : if Region.wanted o (yielded ops a.tmps) = true then o.wp P a w K Q else E := by
  have hw : Region.wanted o (yielded ops a.tmps) = true := by unfold Region.wanted; rw [hgd]
  rw [if_pos hw]
  unfold Oper.wp execOp
  simp only [ho, resolve, invoke, builtin, Sem.run_bind, Sem.run_pure, Result.andThen_ok, List.map_toArray, List.map_cons, List.map_nil, hd, hs, hr]
  exact h

/-- One more in a new row: first what comes, then what is behind it. -/
theorem ovw_ins {cur : Array Value} {a s : Nat} {xs vs : List Value} (hv : vs.length = s) (ha : a ≤ xs.length) (hc : xs.length + s ≤ cur.size) (h : ∀ j, j < a → cur[j]? = xs[j]?) :
    (ovw (ovw cur a vs) (a + s) (xs.drop a)).toList.take (xs.length + s) = xs.take a ++ vs ++ xs.drop a := by
  have hd : (xs.drop a).length = xs.length - a := List.length_drop
  apply List.ext_getElem?
  intro j
  rw [List.getElem?_take, Array.getElem?_toList, ovw_get _ _ _ _ (by rw [ovw_size]; omega), ovw_get _ _ _ _ (by omega), hd, hv]
  by_cases h1 : j < a
  · rw [if_pos (by omega), if_pos (by omega), if_pos h1, h j h1, List.append_assoc, List.getElem?_append_left (by rw [List.length_take]; omega), List.getElem?_take, if_pos h1]
  · have ht : (xs.take a).length = a := by rw [List.length_take]; omega
    by_cases h2 : j < a + s
    · rw [if_pos (by omega), if_pos h2, if_neg h1, if_pos h2, List.append_assoc, List.getElem?_append_right (by omega), ht, List.getElem?_append_left (by omega)]
    · rw [if_neg h2, List.getElem?_append_right (by rw [List.length_append, ht]; omega), List.length_append, ht, hv]
      by_cases h3 : j < xs.length + s
      · rw [if_pos h3, if_pos (by omega)]
      · rw [if_neg h3, List.getElem?_eq_none (by omega)]

/-- One more in place: first what is behind it moves. -/
theorem ovw_ins2 {cur : Array Value} {a s : Nat} {xs vs : List Value} (hv : vs.length = s) (ha : a ≤ xs.length) (hc : xs.length + s ≤ cur.size) (h : ∀ j, j < a → cur[j]? = xs[j]?) :
    (ovw (ovw cur (a + s) (xs.drop a)) a vs).toList.take (xs.length + s) = xs.take a ++ vs ++ xs.drop a := by
  have hd : (xs.drop a).length = xs.length - a := List.length_drop
  apply List.ext_getElem?
  intro j
  rw [List.getElem?_take, Array.getElem?_toList, ovw_get _ _ _ _ (by rw [ovw_size]; omega), ovw_get _ _ _ _ (by omega), hd, hv]
  by_cases h1 : j < a
  · rw [if_pos (by omega), if_pos h1, if_pos (by omega), h j h1, List.append_assoc, List.getElem?_append_left (by rw [List.length_take]; omega), List.getElem?_take, if_pos h1]
  · have ht : (xs.take a).length = a := by rw [List.length_take]; omega
    by_cases h2 : j < a + s
    · rw [if_pos (by omega), if_neg h1, if_pos h2, List.append_assoc, List.getElem?_append_right (by omega), ht, List.getElem?_append_left (by omega)]
    · rw [if_neg h1, if_neg h2, if_neg h2, List.getElem?_append_right (by rw [List.length_append, ht]; omega), List.length_append, ht, hv]
      by_cases h3 : j < xs.length + s
      · rw [if_pos h3, if_pos (by omega)]
      · rw [if_neg h3, List.getElem?_eq_none (by omega)]

theorem own_rowAt {w : World} {base e size n : Nat} {g o cap : Nat} {s : Option _} {xs : List Value} (h : w.ownsRow base e size (.slice (some ⟨g, o, s⟩) n cap) n xs) :
    ∃ cur, o = 0 ∧ s = none ∧ base ≤ g ∧ RowAt w g e cur ∧ n ≤ cap ∧ cap ≤ maxLen ∧ cur.size = cap * size ∧ cur.toList.take (n * size) = xs := by
  rcases h.2 with ⟨h1, _⟩ | ⟨g', cap', cur, h1, h2, h3, h4, h5, h6, h7⟩
  · cases h1
  · injection h1 with h1 _ hc
    injection h1 with h1
    injection h1 with e1 e2 e3
    subst e1 e2 e3 hc
    exact ⟨cur, rfl, rfl, h2, h3, h4, h5, h6, h7⟩

theorem rowAt_own {w : World} {base e size n g cap : Nat} {cur : Array Value} {xs : List Value} (hb : base ≤ g) (h : RowAt w g e cur) (h1 : n ≤ cap) (h2 : cap ≤ maxLen) (h3 : cur.size = cap * size) (h4 : cur.toList.take (n * size) = xs) :
    w.ownsRow base e size (.slice (some ⟨g, 0, none⟩) n cap) n xs := by
  refine ⟨?_, .inr ⟨g, cap, cur, rfl, hb, h, h1, h2, h3, h4⟩⟩
  rw [← h4, List.length_take, Array.length_toList, h3]
  exact Nat.min_eq_left (Nat.mul_le_mul_right _ h1)
end Go.Proofs.Ytjmjnkilgoelbaa

namespace Go.Proofs.Ytjmjnkilgoelbaa
open Go.RowKit

def fitV (z : Int) : Int := if Ok64 z then z else 0
def fitE (z : Int) : Int := if Ok64 z then 0 else 10
theorem fitV_yes {z : Int} (h : Ok64 z) : fitV z = z := if_pos h
theorem fitE_yes {z : Int} (h : Ok64 z) : fitE z = 0 := if_pos h
theorem fitV_no {z : Int} (h : ¬ Ok64 z) : fitV z = 0 := if_neg h
theorem fitE_no {z : Int} (h : ¬ Ok64 z) : fitE z = 10 := if_neg h

/-- The two results of what fits, or of an error. -/
def Fit (w : World) (e : Ending) (w' : World) (z : Int) : Prop := e = .returned (.tuple #[.int .i64 (fitV z), .int .i64 (fitE z)]) ∧ w = w'

theorem add_over {a b : Int} (ha : Ok64 a) (hb : Ok64 b) (h : (!decide (wrap64 (a + b) < a) == decide (b < 0)) = true) : ¬ Ok64 (a + b) := by
  unfold Ok64 wrap64 at *
  by_cases h1 : b < 0 <;> simp [h1] at h <;> omega
theorem add_fits {a b : Int} (ha : Ok64 a) (hb : Ok64 b) (h : (!decide (wrap64 (a + b) < a) == decide (b < 0)) = false) : Ok64 (a + b) ∧ wrap64 (a + b) = a + b := by
  unfold Ok64 wrap64 at *
  by_cases h1 : b < 0 <;> simp [h1] at h <;> omega
theorem sub_over {a b : Int} (ha : Ok64 a) (hb : Ok64 b) (h : (!decide (a < wrap64 (a - b)) == decide (b < 0)) = true) : ¬ Ok64 (a - b) := by
  unfold Ok64 wrap64 at *
  by_cases h1 : b < 0 <;> simp [h1] at h <;> omega
theorem sub_fits {a b : Int} (ha : Ok64 a) (hb : Ok64 b) (h : (!decide (a < wrap64 (a - b)) == decide (b < 0)) = false) : Ok64 (a - b) ∧ wrap64 (a - b) = a - b := by
  unfold Ok64 wrap64 at *
  by_cases h1 : b < 0 <;> simp [h1] at h <;> omega

theorem u64_abs {a : Int} (ha : Ok64 a) (h : a < 0) : IntKind.u64.wrap (-IntKind.u64.wrap a) = (a.natAbs : Int) := by
  unfold Ok64 at ha
  simp only [IntKind.wrap_u64]
  omega

set_option maxHeartbeats 400000 in
theorem size_any (a : Int) (w : World) (ha : Ok64 a) :
    Calls Try.prog 182 #[.int .i64 a] w fun e w' => e = .returned (.int .u64 (a.natAbs : Int)) ∧ w = w' := by
  have h1 := ha.1
  have h2 := ha.2
  by_cases h : a < 0
  · go_enter Try.func182, Try.ntmps182
    go_wp2
    go_ret
    exact ⟨ret_int (u64_abs ha h), rfl⟩
  · go_enter Try.func182, Try.ntmps182
    go_wp2
    go_ret
    exact ⟨ret_int (by omega), rfl⟩

def clampI (v lo hi : Int) : Int := if v < lo then lo else if hi < v then hi else v

set_option maxHeartbeats 400000 in
theorem clamp_any (v lo hi : Int) (w : World) :
    Calls Try.prog 195 #[.int .i64 v, .int .i64 lo, .int .i64 hi] w fun e w' => e = .returned (.int .i64 (clampI v lo hi)) ∧ w = w' := by
  by_cases h1 : v < lo
  · go_enter Try.func195, Try.ntmps195
    go_wp2
    go_ret
    exact ⟨ret_int (by rw [clampI, if_pos h1]), rfl⟩
  · by_cases h2 : hi < v
    · go_enter Try.func195, Try.ntmps195
      go_wp2
      go_ret
      exact ⟨ret_int (by rw [clampI, if_neg (by omega), if_pos h2]), rfl⟩
    · go_enter Try.func195, Try.ntmps195
      go_wp2
      go_ret
      exact ⟨ret_int (by rw [clampI, if_neg (by omega), if_neg (by omega)]), rfl⟩

set_option maxHeartbeats 400000 in
theorem log_any (n : Int) (w : World) (hn : Ok64 n) :
    Calls Try.prog 177 #[.int .i64 n] w fun e w' => e = .returned (.int .i64 (Lib.bitLen (n.toNat - 1))) ∧ w = w' := by
  have h1 := hn.1
  have h2 := hn.2
  by_cases h : n ≤ 1
  · go_enter Try.func177, Try.ntmps177
    go_wp2
    go_ret
    refine ⟨ret_int ?_, rfl⟩
    rw [show n.toNat - 1 = 0 by omega]; rfl
  · have hl := fun W => Try.bits_Len64 (n - 1) W (by omega) (by omega)
    rw [show (n - 1).toNat = n.toNat - 1 by omega] at hl
    have HL := Lib.hid hl; clear hl
    go_enter Try.func177, Try.ntmps177
    go_wp2_with (go_at_call 189; refine (HL.out _).mono ?_; rintro e w' ⟨rfl, rfl⟩)
    go_ret
    exact ⟨rfl, rfl⟩
end Go.Proofs.Ytjmjnkilgoelbaa

namespace Go.Proofs.Ytjmjnkilgoelbaa
open Go.RowKit

theorem div_tell (a b : Int) (hb : b ≠ 0) :
    (0 ≤ a.tmod b → a / b = a.tdiv b ∧ a % b = a.tmod b) ∧ (a.tmod b < 0 → 0 < b → a / b = a.tdiv b - 1 ∧ a % b = a.tmod b + b) ∧ (a.tmod b < 0 → b < 0 → a / b = a.tdiv b + 1 ∧ a % b = a.tmod b - b) := by
  have h0 := Int.emod_nonneg a hb
  have h1 := Int.emod_lt a hb
  rw [Int.tdiv_eq_ediv, Int.tmod_eq_emod]
  split
  · refine ⟨fun _ => ⟨by omega, by omega⟩, fun h => ?_, fun h => ?_⟩ <;> omega
  · rcases Int.lt_or_gt_of_ne hb with h | h
    · rw [Int.sign_eq_neg_one_of_neg h]
      exact ⟨fun _ => ⟨by omega, by omega⟩, fun _ _ => ⟨by omega, by omega⟩, fun _ _ => ⟨by omega, by omega⟩⟩
    · rw [Int.sign_eq_one_of_pos h]
      exact ⟨fun _ => ⟨by omega, by omega⟩, fun _ _ => ⟨by omega, by omega⟩, fun _ _ => ⟨by omega, by omega⟩⟩

def least64 : Int := -9223372036854775808
def divQ (a b : Int) : Int := if b = 0 ∨ (a = least64 ∧ b = -1) then 0 else a / b
def divR (a b : Int) : Int := if b = 0 ∨ (a = least64 ∧ b = -1) then 0 else a % b
def divE (a b : Int) : Int := if b = 0 then 11 else if a = least64 ∧ b = -1 then 10 else 0

theorem tdiv_ok {a b : Int} (ha : Ok64 a) (hb : b ≠ 0) (h : ¬ (a = least64 ∧ b = -1)) : Ok64 (a.tdiv b) := by
  unfold Ok64 least64 at *
  have h2 : (a.tdiv b).natAbs = a.natAbs / b.natAbs := Int.natAbs_tdiv a b
  have h3 : a.natAbs / b.natAbs ≤ a.natAbs := Nat.div_le_self _ _
  by_cases hb1 : b.natAbs = 1
  · rcases (show b = 1 ∨ b = -1 by omega) with rfl | rfl
    · simp only [Int.tdiv_one] at *; omega
    · have e : a.tdiv (-1) = -a := by rw [Int.tdiv_neg, Int.tdiv_one]
      rw [e]; omega
  · have h4 : a.natAbs / b.natAbs ≤ a.natAbs / 2 := Nat.div_le_div_left (by omega) (by omega)
    omega

theorem tmod_bd {a b : Int} (h0 : b ≠ 0) : a.tmod b < b.natAbs ∧ -(b.natAbs : Int) < a.tmod b := by
  have h1 := Int.emod_nonneg a h0
  have h2 := Int.emod_lt a h0
  rw [Int.tmod_eq_emod]
  split
  · omega
  · have h3 : a % b ≠ 0 := fun h => by
      have := Int.dvd_of_emod_eq_zero h
      simp_all
    omega

theorem ediv_ok {a b : Int} (ha : Ok64 a) (h0 : b ≠ 0) (h : ¬ (a = least64 ∧ b = -1)) : Ok64 (a / b) := by
  obtain ⟨t1, t2, t3⟩ := div_tell a b h0
  have k1 := tdiv_ok ha h0 h
  have hb := tmod_bd (a := a) h0
  by_cases hs : 0 ≤ a.tmod b
  · rw [(t1 hs).1]; exact k1
  · have h2 : (a.tdiv b).natAbs = a.natAbs / b.natAbs := Int.natAbs_tdiv a b
    have h4 : a.natAbs / b.natAbs ≤ a.natAbs / 2 := Nat.div_le_div_left (by omega) (by omega)
    unfold Ok64 at *
    rcases Int.lt_or_gt_of_ne h0 with h | h
    · rw [(t3 (by omega) h).1]; omega
    · rw [(t2 (by omega) h).1]; omega

theorem ceil_step {a b : Int} (hb : 0 < b) : 0 < a.tmod b ↔ (a / b = a.tdiv b ∧ 0 < a % b) := by
  obtain ⟨t1, t2, _⟩ := div_tell a b (by omega)
  constructor
  · intro h; have := t1 (by omega); omega
  · intro h
    by_cases h0 : 0 ≤ a.tmod b
    · have := t1 h0; omega
    · have := t2 (by omega) hb; omega

def ceilV (a b : Int) : Int := if b < 1 then 0 else if 0 < a % b then a / b + 1 else a / b
def ceilE (b : Int) : Int := if b < 1 then 1 else 0

theorem ceil_eq {a b : Int} (hb : 0 < b) : ceilV a b = if 0 < a.tmod b then a.tdiv b + 1 else a.tdiv b := by
  obtain ⟨t1, t2, _⟩ := div_tell a b (by omega)
  have h0 := Int.emod_nonneg a (show b ≠ 0 by omega)
  have h1 := Int.emod_lt a (show b ≠ 0 by omega)
  have h2 := tmod_bd (a := a) (show b ≠ 0 by omega)
  unfold ceilV
  rw [if_neg (by omega)]
  by_cases hs : 0 ≤ a.tmod b
  · obtain ⟨e1, e2⟩ := t1 hs
    rw [e1, e2]
  · obtain ⟨e1, e2⟩ := t2 (by omega) hb
    rw [if_pos (by omega), if_neg (by omega)]; omega

set_option maxHeartbeats 400000 in
theorem ceil_any (a b : Int) (w : World) (ha : Ok64 a) (hb : Ok64 b) :
    Calls Try.prog 162 #[.int .i64 a, .int .i64 b] w fun e w' => e = .returned (.tuple #[.int .i64 (ceilV a b), .int .i64 (ceilE b)]) ∧ w = w' := by
  by_cases h1 : b < 1
  · go_enter Try.func162, Try.ntmps162
    go_wp2
    go_ret2
    exact ⟨ret2 (by rw [ceilV, if_pos h1]) (by rw [ceilE, if_pos h1]), rfl⟩
  · have hp : 0 < b := by omega
    have e1 := ceil_eq (a := a) hp
    have e2 : ceilE b = 0 := if_neg h1
    have k1 := tdiv_ok ha (show b ≠ 0 by omega) (by omega)
    have k4 := tmod_bd (a := a) (show b ≠ 0 by omega)
    have k5 : 0 < a.tmod b → a.tdiv b < 9223372036854775807 := by
      intro h
      have h2 : (a.tdiv b).natAbs = a.natAbs / b.natAbs := Int.natAbs_tdiv a b
      have h4 : a.natAbs / b.natAbs ≤ a.natAbs / 2 := Nat.div_le_div_left (by omega) (by omega)
      unfold Ok64 at ha
      omega
    unfold Ok64 at ha hb k1
    have E1 := Lib.hid e1
    have E2 := Lib.hid e2
    have b0 : (b == 0) = false := by simp; omega
    clear e1 e2
    by_cases hs : 0 < a.tmod b
    · have k6 := k5 hs
      go_enter Try.func162, Try.ntmps162
      go_wp2
      go_ret2
      refine ⟨ret2 ?_ E2.out.symm, rfl⟩
      rw [E1.out, if_pos hs]
    · go_enter Try.func162, Try.ntmps162
      go_wp2
      go_ret2
      refine ⟨ret2 ?_ E2.out.symm, rfl⟩
      rw [E1.out, if_neg (by omega)]
end Go.Proofs.Ytjmjnkilgoelbaa

namespace Go.Proofs.Ytjmjnkilgoelbaa
open Go.RowKit

theorem mul_neg {a b : Int} (h : (!decide (a < 0) == decide (b < 0)) = true) : a * b = -((a.natAbs * b.natAbs : Nat) : Int) := by
  rw [Int.natCast_mul]
  by_cases h1 : a < 0 <;> by_cases h2 : b < 0 <;> simp [h1, h2] at h
  · rw [show (a.natAbs : Int) = -a by omega, show (b.natAbs : Int) = b by omega, Int.neg_mul, Int.neg_neg]
  · rw [show (a.natAbs : Int) = a by omega, show (b.natAbs : Int) = -b by omega, Int.mul_neg, Int.neg_neg]
theorem mul_pos' {a b : Int} (h : (!decide (a < 0) == decide (b < 0)) = false) : a * b = ((a.natAbs * b.natAbs : Nat) : Int) := by
  rw [Int.natCast_mul]
  by_cases h1 : a < 0 <;> by_cases h2 : b < 0 <;> simp [h1, h2] at h
  · rw [show (a.natAbs : Int) = -a by omega, show (b.natAbs : Int) = -b by omega, Int.neg_mul_neg]
  · rw [show (a.natAbs : Int) = a by omega, show (b.natAbs : Int) = b by omega]

def gcdZ (a b : Int) : Int := (Nat.gcd a.natAbs b.natAbs : Int)

theorem gcd_step (x y : Nat) : Nat.gcd x y = Nat.gcd y (x % y) := by
  rw [Nat.gcd_comm x y, Nat.gcd_rec, Nat.gcd_comm]

set_option maxHeartbeats 400000 in
theorem gcd_any (a b : Int) (w : World) (ha : Ok64 a) (hb : Ok64 b) :
    Calls Try.prog 145 #[.int .i64 a, .int .i64 b] w fun e w' => e = .returned (.tuple #[.int .i64 (fitV (gcdZ a b)), .int .i64 (fitE (gcdZ a b))]) ∧ ∃ n, w' = w.drewN n := by
  have hxa : (a.natAbs : Int) ≤ 18446744073709551615 := by have := ha.1; have := ha.2; omega
  have hxb : (b.natAbs : Int) ≤ 18446744073709551615 := by have := hb.1; have := hb.2; omega
  go_enter Try.func145, Try.ntmps145
  go_wp2_with (go_at_call 182; refine (size_any _ _ (by assumption)).mono ?_; rintro e w' ⟨rfl, rfl⟩)
  go_loopw [6, 7] (fun x y wr => ∃ (p q : Nat), x = .int .u64 p ∧ y = .int .u64 q ∧ (p : Int) ≤ 18446744073709551615 ∧ (q : Int) ≤ 18446744073709551615 ∧ Nat.gcd p q = Nat.gcd a.natAbs b.natAbs ∧ ∃ n, wr = w.drewN n) (fun _ y _ => (intOf y).toNat)
  case atStart => exact ⟨_, _, rfl, rfl, hxa, hxb, rfl, 0, rfl⟩
  case round =>
    obtain ⟨p, q, rfl, rfl, hp, hq, hg, n, rfl⟩ := hrel
    have HG := Lib.hid hg; clear hg
    by_cases h0 : 0 < q
    · have h0' : (q : Int) ≠ 0 := by omega
      go_wp2
      go_quiet (fail)
      go_wp2
      go_roundw
      case rel => exact ⟨q, p % q, rfl, by go_num, hq, by have := Nat.mod_lt p h0; omega, by rw [← gcd_step, HG.out], _, World.drewN_drewN _ _ _⟩
      case measure => have := Nat.mod_lt p h0; simp [intOf]; omega
    · obtain rfl : q = 0 := by omega
      have hz : gcdZ a b = p := by unfold gcdZ; rw [← HG.out]; simp
      by_cases hb : p ≤ 9223372036854775807
      · have HZ : Hid (Ok64 (gcdZ a b) ∧ gcdZ a b = p) := ⟨by unfold Ok64; omega, hz⟩
        clear hz
        go_wp2
        go_ret2
        exact ⟨ret2 (by rw [fitV_yes HZ.out.1, HZ.out.2]) (fitE_yes HZ.out.1).symm, _, rfl⟩
      · have HZ : Hid (¬ Ok64 (gcdZ a b)) := by show ¬ _; unfold Ok64; omega
        clear hz
        go_wp2
        go_ret2
        exact ⟨ret2 (fitV_no HZ.out).symm (fitE_no HZ.out).symm, _, rfl⟩
end Go.Proofs.Ytjmjnkilgoelbaa

namespace Go.Proofs.Ytjmjnkilgoelbaa

def T128 : Nat := 340282366920938463463374607431768211456

/-- A number of 128 bits, as Go holds it. -/
def WV (n : Nat) : Value := .agg #[.int .u64 ((n / 18446744073709551616 : Nat) : Int), .int .u64 ((n % 18446744073709551616 : Nat) : Int)]

theorem wv_of {n : Nat} (h l : Nat) (hl : l < 18446744073709551616) (e : n = h * 18446744073709551616 + l) : WV n = .agg #[.int .u64 (h : Int), .int .u64 (l : Int)] := by
  subst e
  unfold WV
  rw [show (h * 18446744073709551616 + l) / 18446744073709551616 = h by omega, show (h * 18446744073709551616 + l) % 18446744073709551616 = l by omega]

theorem wv_ex {n : Nat} (hn : n < T128) : ∃ h l : Nat, (h : Int) ≤ 18446744073709551615 ∧ (l : Int) ≤ 18446744073709551615 ∧ n = h * 18446744073709551616 + l ∧ WV n = .agg #[.int .u64 (h : Int), .int .u64 (l : Int)] := by
  unfold T128 at hn
  refine ⟨n / 18446744073709551616, n % 18446744073709551616, by omega, by omega, by omega, rfl⟩

def addV (m n : Nat) : Nat := if m + n < T128 then m + n else 0
def addE (m n : Nat) : Int := if m + n < T128 then 0 else 10
def subV (m n : Nat) : Nat := if n ≤ m then m - n else 0
def subE (m n : Nat) : Int := if n ≤ m then 0 else 10
/-- How two numbers lie. -/
def cmpN (m n : Nat) : Int := if m < n then -1 else if n < m then 1 else 0

theorem wide_add {ah al bh bl : Nat} (h1 : (ah : Int) ≤ 18446744073709551615) (h2 : (al : Int) ≤ 18446744073709551615) (h3 : (bh : Int) ≤ 18446744073709551615) (h4 : (bl : Int) ≤ 18446744073709551615)
    {s0 c0 s1 c1 : Int} (e1 : ((al : Int) + bl + 0) % 18446744073709551616 = s0) (e2 : ((al : Int) + bl + 0) / 18446744073709551616 = c0) (e3 : ((ah : Int) + bh + c0) % 18446744073709551616 = s1) (e4 : ((ah : Int) + bh + c0) / 18446744073709551616 = c1) :
    (c1 = 0 → WV (addV (ah * 18446744073709551616 + al) (bh * 18446744073709551616 + bl)) = .agg #[.int .u64 s1, .int .u64 s0] ∧ addE (ah * 18446744073709551616 + al) (bh * 18446744073709551616 + bl) = 0) ∧
    (0 < c1 → addV (ah * 18446744073709551616 + al) (bh * 18446744073709551616 + bl) = 0 ∧ addE (ah * 18446744073709551616 + al) (bh * 18446744073709551616 + bl) = 10) := by
  unfold addV addE T128
  constructor
  · intro hc
    rw [if_pos (by omega), if_pos (by omega)]
    refine ⟨?_, rfl⟩
    rw [wv_of s1.toNat s0.toNat (by omega) (by omega), Int.toNat_of_nonneg (by omega), Int.toNat_of_nonneg (by omega)]
  · intro hc
    rw [if_neg (by omega), if_neg (by omega)]
    exact ⟨rfl, rfl⟩

theorem wide_sub {ah al bh bl : Nat} (h1 : (ah : Int) ≤ 18446744073709551615) (h2 : (al : Int) ≤ 18446744073709551615) (h3 : (bh : Int) ≤ 18446744073709551615) (h4 : (bl : Int) ≤ 18446744073709551615)
    {s0 c0 s1 c1 : Int} (e1 : ((al : Int) + 18446744073709551616 - bl - 0) % 18446744073709551616 = s0) (e2 : (if (al : Int) < bl + 0 then (1 : Int) else 0) = c0) (e3 : ((ah : Int) + 18446744073709551616 - bh - c0) % 18446744073709551616 = s1) (e4 : (if (ah : Int) < bh + c0 then (1 : Int) else 0) = c1) :
    (c1 = 0 → WV (subV (ah * 18446744073709551616 + al) (bh * 18446744073709551616 + bl)) = .agg #[.int .u64 s1, .int .u64 s0] ∧ subE (ah * 18446744073709551616 + al) (bh * 18446744073709551616 + bl) = 0) ∧
    (0 < c1 → subV (ah * 18446744073709551616 + al) (bh * 18446744073709551616 + bl) = 0 ∧ subE (ah * 18446744073709551616 + al) (bh * 18446744073709551616 + bl) = 10) := by
  unfold subV subE
  constructor
  · intro hc
    have hle : bh * 18446744073709551616 + bl ≤ ah * 18446744073709551616 + al := by split at e2 <;> split at e4 <;> omega
    rw [if_pos hle, if_pos hle]
    refine ⟨?_, rfl⟩
    rw [wv_of s1.toNat s0.toNat (by omega) (by split at e2 <;> split at e4 <;> omega), Int.toNat_of_nonneg (by omega), Int.toNat_of_nonneg (by omega)]
  · intro hc
    have hle : ¬ bh * 18446744073709551616 + bl ≤ ah * 18446744073709551616 + al := by split at e2 <;> split at e4 <;> omega
    rw [if_neg hle, if_neg hle]
    exact ⟨rfl, rfl⟩
end Go.Proofs.Ytjmjnkilgoelbaa

namespace Go.Proofs.Ytjmjnkilgoelbaa.DivM

/-- What holds of a digit that is guessed, and of what it leaves: the guess is not below the true digit. -/
structure Guess (U d y1 y0 q r : Nat) : Prop where
  sum : q * y1 + r = U
  low : (U * 4294967296 + d) / (y1 * 4294967296 + y0) ≤ q
  top : q ≤ 4294967296 + 1

theorem prod_eq (U y1 y0 q r : Nat) (h : q * y1 + r = U) : q * (y1 * 4294967296 + y0) + r * 4294967296 = U * 4294967296 + q * y0 := by
  rw [← h, Nat.mul_add, Nat.add_mul, Nat.mul_assoc]; omega

theorem digit_lt {U d y1 y0 : Nat} (hU : U < y1 * 4294967296 + y0) (hd : d < 4294967296) : (U * 4294967296 + d) / (y1 * 4294967296 + y0) < 4294967296 := by
  apply Nat.div_lt_of_lt_mul
  have h1 : (U + 1) * 4294967296 ≤ (y1 * 4294967296 + y0) * 4294967296 := Nat.mul_le_mul_right 4294967296 hU
  rw [Nat.add_mul] at h1
  omega

theorem guess_first {U d y1 y0 : Nat} (hU : U < y1 * 4294967296 + y0) (hd : d < 4294967296) (hy0 : y0 < 4294967296) (hy1 : 2147483648 ≤ y1) : Guess U d y1 y0 (U / y1) (U % y1) := by
  have hpos : 0 < y1 := by omega
  have h1 : U / y1 * y1 + U % y1 = U := by rw [Nat.mul_comm]; exact Nat.div_add_mod U y1
  refine ⟨h1, ?_, ?_⟩
  · have h2 := Nat.mod_lt U hpos
    refine Nat.le_of_lt_succ ((Nat.div_lt_iff_lt_mul (by omega)).2 ?_)
    generalize U / y1 = q at *
    generalize U % y1 = r at *
    have e : (q + 1) * (y1 * 4294967296 + y0) = q * y1 * 4294967296 + y1 * 4294967296 + (q + 1) * y0 := by
      rw [Nat.mul_add, Nat.add_mul, Nat.one_mul, Nat.mul_assoc]
    show _ < (q + 1) * _
    rw [e]
    generalize q * y1 = p at *
    omega
  · have h3 := (Nat.div_lt_iff_lt_mul hpos).2 (show U < 4294967298 * y1 by omega)
    omega

/-- The test of the guess: it is above the true digit. -/
theorem guess_over {U d y1 y0 q r : Nat} (g : Guess U d y1 y0 q r) (hp : 0 < y1 * 4294967296 + y0) (h : 4294967296 * r + d < q * y0) : (U * 4294967296 + d) / (y1 * 4294967296 + y0) < q := by
  have e := prod_eq U y1 y0 q r g.sum
  apply (Nat.div_lt_iff_lt_mul hp).2
  omega

theorem guess_right {U d y1 y0 q r : Nat} (g : Guess U d y1 y0 q r) (hp : 0 < y1 * 4294967296 + y0) (h : q * y0 ≤ 4294967296 * r + d) : q = (U * 4294967296 + d) / (y1 * 4294967296 + y0) := by
  have e := prod_eq U y1 y0 q r g.sum
  have : q ≤ (U * 4294967296 + d) / (y1 * 4294967296 + y0) := (Nat.le_div_iff_mul_le hp).2 (by omega)
  have := g.low
  omega

theorem guess_down {U d y1 y0 q r : Nat} (g : Guess U d y1 y0 q r) (h : (U * 4294967296 + d) / (y1 * 4294967296 + y0) < q) : Guess U d y1 y0 (q - 1) (r + y1) := by
  obtain ⟨p, rfl⟩ : ∃ p, q = p + 1 := ⟨q - 1, (Nat.sub_add_cancel (Nat.lt_of_le_of_lt (Nat.zero_le _) h)).symm⟩
  have h1 := g.sum
  have h3 := g.top
  rw [Nat.add_mul] at h1
  have h4 := Nat.le_of_lt_succ h
  clear h
  exact ⟨by simp only [Nat.add_sub_cancel]; omega, by simpa using h4, by simp only [Nat.add_sub_cancel]; omega⟩

/-- What is left is a digit's room: the guess is right. -/
theorem guess_end {U d y1 y0 q r : Nat} (g : Guess U d y1 y0 q r) (hp : 0 < y1 * 4294967296 + y0) (hy0 : y0 < 4294967296) (hq : q ≤ 4294967296) (hr : 4294967296 ≤ r) : q = (U * 4294967296 + d) / (y1 * 4294967296 + y0) := by
  refine guess_right g hp ?_
  have h1 : q * y0 ≤ 4294967296 * (4294967296 - 1) := Nat.mul_le_mul hq (by omega)
  have h2 : 4294967296 * (4294967296 - 1) ≤ 4294967296 * r := Nat.mul_le_mul_left 4294967296 (by omega)
  omega

/-- One digit's rest, as it is reckoned modulo 2^64. -/
theorem rest_eq {U d y1 y0 q : Nat} (hp : 0 < y1 * 4294967296 + y0) (hq : q = (U * 4294967296 + d) / (y1 * 4294967296 + y0)) :
    (U * 4294967296 + d) = q * (y1 * 4294967296 + y0) + (U * 4294967296 + d) % (y1 * 4294967296 + y0) ∧ (U * 4294967296 + d) % (y1 * 4294967296 + y0) < y1 * 4294967296 + y0 := by
  refine ⟨?_, Nat.mod_lt _ hp⟩
  rw [hq]
  have := Nat.div_add_mod (U * 4294967296 + d) (y1 * 4294967296 + y0)
  rw [Nat.mul_comm] at this
  exact this.symm

theorem lin_digits {a b t r M K d0 u : Nat} (e1 : a + t = M) (hK : t * 4294967296 + d0 = K) (e0 : b + r = K) (hu : u = M * 4294967296 + d0) : u = a * 4294967296 + b + r := by
  rw [hu, ← e1, Nat.add_mul, Nat.add_assoc (a * 4294967296), hK, ← e0, ← Nat.add_assoc]

/-- Two digits make the quotient. -/
theorem two_digits {u v q1 q0 d1 d0 U : Nat} (hu : u = (U * 4294967296 + d1) * 4294967296 + d0) (hv : 0 < v) (h1 : q1 = (U * 4294967296 + d1) / v) (h0 : q0 = ((U * 4294967296 + d1) % v * 4294967296 + d0) / v) :
    u / v = q1 * 4294967296 + q0 ∧ u % v = ((U * 4294967296 + d1) % v * 4294967296 + d0) % v := by
  obtain ⟨M, hM⟩ : ∃ M, U * 4294967296 + d1 = M := ⟨_, rfl⟩
  rw [hM] at hu h1 h0 ⊢
  have e1 := Nat.div_add_mod M v
  rw [← h1] at e1
  generalize M % v = t at *
  obtain ⟨K, hK⟩ : ∃ K, t * 4294967296 + d0 = K := ⟨_, rfl⟩
  rw [hK] at h0 ⊢
  have e0 := Nat.div_add_mod K v
  rw [← h0] at e0
  have hr := Nat.mod_lt K hv
  generalize K % v = r at *
  have e : u = v * (q1 * 4294967296 + q0) + r := by
    have e3 : v * (q1 * 4294967296 + q0) = v * q1 * 4294967296 + v * q0 := by rw [Nat.mul_add, ← Nat.mul_assoc]
    rw [e3]
    exact lin_digits e1 hK e0 hu
  rw [e]
  exact ⟨by rw [Nat.mul_add_div hv, Nat.div_eq_of_lt hr, Nat.add_zero], by rw [Nat.mul_add_mod, Nat.mod_eq_of_lt hr]⟩

/-- A division by what is shifted. -/
theorem div_shift (u y s : Nat) : (u * 2 ^ s) / (y * 2 ^ s) = u / y ∧ (u * 2 ^ s) % (y * 2 ^ s) / 2 ^ s = u % y := by
  have hp := Nat.two_pow_pos s
  exact ⟨Nat.mul_div_mul_right _ _ hp, by rw [Nat.mul_mod_mul_right, Nat.mul_div_cancel _ hp]⟩

end Go.Proofs.Ytjmjnkilgoelbaa.DivM

namespace Go.Proofs.Ytjmjnkilgoelbaa
open Go.RowKit DivM

theorem ret2' {k k' : IntKind} {a b c d : Int} (h : a = c) (h' : b = d) : Ending.returned (.tuple #[.int k a, .int k' b]) = .returned (.tuple #[.int k c, .int k' d]) := by rw [h, h']

theorem and_low (n : Nat) (h : n < 18446744073709551616) : bits .and .u64 (n : Int) 4294967295 = ((n % 4294967296 : Nat) : Int) := by
  have := u64_and_nat n 4294967295 h (by omega)
  rw [show n &&& 4294967295 = n % 4294967296 from Nat.and_two_pow_sub_one_eq_mod n 32] at this
  exact this

theorem or_parts (a b s : Nat) (h : a * 2 ^ s < 18446744073709551616) (hb : b < 2 ^ s) (hle : b < 18446744073709551616) : bits .or .u64 ((a * 2 ^ s : Nat) : Int) (b : Int) = ((a * 2 ^ s + b : Nat) : Int) := by
  rw [u64_or_nat _ _ h hle, Nat.mul_comm, ← Nat.two_pow_add_eq_or_of_lt hb]

theorem shl_parts (lo s : Nat) (hs : s ≤ 64) : lo * 2 ^ s = lo / 2 ^ (64 - s) * 18446744073709551616 + lo * 2 ^ s % 18446744073709551616 := by
  have e : 2 ^ (64 - s) * 2 ^ s = 18446744073709551616 := by rw [← Nat.pow_add, Nat.sub_add_cancel hs]
  have h1 : lo * 2 ^ s / 18446744073709551616 = lo / 2 ^ (64 - s) := by
    rw [← e]; exact Nat.mul_div_mul_right _ _ (Nat.two_pow_pos s)
  rw [← h1]
  have := Nat.div_add_mod (lo * 2 ^ s) 18446744073709551616
  omega

structure Setup (hi lo y s v y1 y0 h' l' U L d1 d0 : Nat) : Prop where
  ev : IntKind.u64.wrap ((y : Int) * 2 ^ s) = (v : Int)
  ey1 : (v : Int) / 4294967296 = (y1 : Int)
  ey0 : bits .and .u64 (v : Int) 4294967295 = (y0 : Int)
  eh : IntKind.u64.wrap ((hi : Int) * 2 ^ s) = (h' : Int)
  el : (lo : Int) / 2 ^ (64 - s) = (l' : Int)
  eU : bits .or .u64 (h' : Int) (l' : Int) = (U : Int)
  eL : IntKind.u64.wrap ((lo : Int) * 2 ^ s) = (L : Int)
  ed1 : (L : Int) / 4294967296 = (d1 : Int)
  ed0 : bits .and .u64 (L : Int) 4294967295 = (d0 : Int)
  vv : v = y1 * 4294967296 + y0
  y0lt : y0 < 4294967296
  y1lo : 2147483648 ≤ y1
  y1lt : y1 < 4294967296
  Ult : U < v
  d1lt : d1 < 4294967296
  d0lt : d0 < 4294967296
  vy : v = y * 2 ^ s
  uu : (hi * 18446744073709551616 + lo) * 2 ^ s = (U * 4294967296 + d1) * 4294967296 + d0

theorem cast_pow (a s : Nat) : ((a : Int) * 2 ^ s) = ((a * 2 ^ s : Nat) : Int) := by simp

theorem setup {hi lo y s : Nat} (hlo : lo < 18446744073709551616) (h0 : hi < y) (hv1 : 9223372036854775808 ≤ y * 2 ^ s) (hv2 : y * 2 ^ s < 18446744073709551616) (hs : s ≤ 63) :
    ∃ v y1 y0 h' l' U L d1 d0, Setup hi lo y s v y1 y0 h' l' U L d1 d0 := by
  have hpos := Nat.two_pow_pos s
  have hh : (hi + 1) * 2 ^ s ≤ y * 2 ^ s := Nat.mul_le_mul_right _ h0
  have hh2 : hi * 2 ^ s + 2 ^ s ≤ y * 2 ^ s := by rw [Nat.add_mul, Nat.one_mul] at hh; exact hh
  have e64 : 2 ^ (64 - s) * 2 ^ s = 18446744073709551616 := by rw [← Nat.pow_add, Nat.sub_add_cancel (by omega)]
  have hl : lo / 2 ^ (64 - s) < 2 ^ s := Nat.div_lt_of_lt_mul (by rw [e64]; exact hlo)
  have hsp := shl_parts lo s (by omega)
  have hmod := Nat.mod_lt (lo * 2 ^ s) (show 0 < 18446744073709551616 by omega)
  refine ⟨y * 2 ^ s, y * 2 ^ s / 4294967296, y * 2 ^ s % 4294967296, hi * 2 ^ s, lo / 2 ^ (64 - s), hi * 2 ^ s + lo / 2 ^ (64 - s), lo * 2 ^ s % 18446744073709551616, lo * 2 ^ s % 18446744073709551616 / 4294967296, lo * 2 ^ s % 18446744073709551616 % 4294967296, ?_⟩
  refine { ev := ?_, ey1 := ?_, ey0 := ?_, eh := ?_, el := ?_, eU := ?_, eL := ?_, ed1 := ?_, ed0 := ?_, vv := ?_, y0lt := ?_, y1lo := ?_, y1lt := ?_, Ult := ?_, d1lt := ?_, d0lt := ?_, vy := rfl, uu := ?_ }
  · rw [cast_pow, IntKind.wrap_u64]; generalize y * 2 ^ s = v at *; omega
  · rfl
  · exact and_low _ hv2
  · rw [cast_pow, IntKind.wrap_u64]; generalize hi * 2 ^ s = v at *; omega
  · simp
  · exact or_parts _ _ _ (by omega) hl (Nat.lt_of_le_of_lt (Nat.div_le_self _ _) hlo)
  · rw [cast_pow, IntKind.wrap_u64]; rfl
  · rfl
  · exact and_low _ hmod
  · omega
  · exact Nat.mod_lt _ (by omega)
  · generalize y * 2 ^ s = v at *; omega
  · generalize y * 2 ^ s = v at *; omega
  · omega
  · omega
  · exact Nat.mod_lt _ (by omega)
  · rw [Nat.add_mul, hsp]
    generalize lo * 2 ^ s % 18446744073709551616 = L at *
    generalize lo / 2 ^ (64 - s) = l at *
    have : hi * 18446744073709551616 * 2 ^ s = hi * 2 ^ s * 18446744073709551616 := by rw [Nat.mul_right_comm]
    rw [this]
    generalize hi * 2 ^ s = h at *
    omega

end Go.Proofs.Ytjmjnkilgoelbaa

namespace Go.Proofs.Ytjmjnkilgoelbaa
open Go.RowKit

def sub64Entry : Array Value → Sem Value := fun args => do
  let (x, y, b) ← Extern.MathBitsCarry.three "Sub64" args
  pure (Extern.MathBitsCarry.pair ((x + Extern.MathBitsCarry.m64 - y - b) % Extern.MathBitsCarry.m64) (if x < y + b then 1 else 0))

theorem run_sub64 {P : Program} (x y c : Int) (hx : 0 ≤ x) (hy : 0 ≤ y) (hy' : y ≤ 18446744073709551615) (hc0 : 0 ≤ c) (hc : c ≤ 1) (w : World) :
    (sub64Entry #[.int .u64 x, .int .u64 y, .int .u64 c]).run P w =
      .ok (.tuple #[.int .u64 ((x + 18446744073709551616 - y - c) % 18446744073709551616), .int .u64 (if x < y + c then 1 else 0)]) w := by
  have key : ∀ k : Nat, k ≤ 1 → (sub64Entry #[.int .u64 x, .int .u64 y, .int .u64 (k : Int)]).run P w =
      .ok (Extern.MathBitsCarry.pair ((x.toNat + Extern.MathBitsCarry.m64 - y.toNat - k) % Extern.MathBitsCarry.m64) (if x.toNat < y.toNat + k then 1 else 0)) w := by
    intro k hk
    have : k = 0 ∨ k = 1 := by omega
    rcases this with rfl | rfl <;> rfl
  obtain ⟨k, rfl⟩ := Int.eq_ofNat_of_zero_le hc0
  rw [key k (by omega)]
  obtain ⟨X, rfl⟩ := Int.eq_ofNat_of_zero_le hx
  obtain ⟨Y, rfl⟩ := Int.eq_ofNat_of_zero_le hy
  simp only [Extern.MathBitsCarry.pair, Extern.MathBitsCarry.m64, Int.toNat_natCast]
  have e1 : Int.ofNat ((X + 2 ^ 64 - Y - k) % 2 ^ 64) = ((X : Int) + 18446744073709551616 - Y - k) % 18446744073709551616 := by
    rw [show (2 : Nat) ^ 64 = 18446744073709551616 by decide]
    show (((X + 18446744073709551616 - Y - k) % 18446744073709551616 : Nat) : Int) = _
    omega
  have e2 : Int.ofNat (if X < Y + k then 1 else 0) = (if (X : Int) < (Y : Int) + (k : Int) then 1 else 0) := by
    by_cases h : X < Y + k
    · rw [if_pos h, if_pos (by omega)]; rfl
    · rw [if_neg h, if_neg (by omega)]; rfl
  rw [e1, e2]

set_option maxRecDepth 100000 in
theorem wMul_any (x y : Nat) (w : World) (hx : (x : Int) ≤ 18446744073709551615) (hy : (y : Int) ≤ 18446744073709551615) :
    Calls Try.prog 213 #[.int .u64 x, .int .u64 y] w fun e w' => e = .returned (WV (x * y)) ∧ Below w.heap.size w w' := by
  have hm := fun W => Try.bits_Mul64 x y (by omega) (by omega) W
  unfold WV
  obtain ⟨h, hh⟩ : ∃ h, x * y / 18446744073709551616 = h := ⟨_, rfl⟩
  obtain ⟨l, hl⟩ : ∃ l, x * y % 18446744073709551616 = l := ⟨_, rfl⟩
  rw [hh, hl] at hm ⊢
  have HM := Lib.hid hm
  clear hm hh hl
  go_enter Try.func213, Try.ntmps213
  go_wp2_with (go_at_call 223; refine (HM.out _).mono ?_; rintro e w1 ⟨rfl, rfl⟩)
  refine bodyPost_ret (v := .agg #[.int .u64 h, .int .u64 l]) (by simp [results, Try.results213, go_sem]) rfl ⟨rfl, ?_⟩
  (repeat (first | with_reducible exact Below.refl _ _ | with_reducible refine Bs ?_ | with_reducible refine Ba ?_ | with_reducible refine Bd ?_ | with_reducible refine Bn ?_))

theorem cmp64_any (x y : Int) (w : World) : Calls Try.prog 222 #[.int .u64 x, .int .u64 y] w fun e w' => e = .returned (.int .i64 (if x < y then -1 else if y < x then 1 else 0)) ∧ w = w' := by
  by_cases h1 : x < y
  · rw [if_pos h1]
    go_enter Try.func222, Try.ntmps222
    go_wp2
    go_ret
    exact ⟨rfl, rfl⟩
  · rw [if_neg h1]
    by_cases h2 : y < x
    · rw [if_pos h2]
      go_enter Try.func222, Try.ntmps222
      go_wp2
      go_ret
      exact ⟨rfl, rfl⟩
    · rw [if_neg h2]
      go_enter Try.func222, Try.ntmps222
      go_wp2
      go_ret
      exact ⟨rfl, rfl⟩

theorem cmp_hi {ah al bh bl : Nat} (h2 : (al : Int) ≤ 18446744073709551615) (h4 : (bl : Int) ≤ 18446744073709551615) (h : ah ≠ bh) : cmpN (ah * 18446744073709551616 + al) (bh * 18446744073709551616 + bl) = if (ah : Int) < bh then -1 else if (bh : Int) < ah then 1 else 0 := by
  unfold cmpN
  repeat' split
  all_goals omega
theorem cmp_lo {ah al bl : Nat} : cmpN (ah * 18446744073709551616 + al) (ah * 18446744073709551616 + bl) = if (al : Int) < bl then -1 else if (bl : Int) < al then 1 else 0 := by
  unfold cmpN
  repeat' split
  all_goals omega

set_option maxRecDepth 100000 in
set_option maxHeartbeats 800000 in
theorem wCmp_any (m n : Nat) (w : World) (hm : m < T128) (hn : n < T128) :
    Calls Try.prog 212 #[WV m, WV n] w fun e w' => e = .returned (.int .i64 (cmpN m n)) ∧ Below w.heap.size w w' := by
  obtain ⟨ah, al, h1, h2, rfl, e1⟩ := wv_ex hm
  obtain ⟨bh, bl, h3, h4, rfl, e2⟩ := wv_ex hn
  rw [e1, e2]
  by_cases he : ah = bh
  · subst he
    rw [cmp_lo]
    have hq : ((ah : Int) != ah) = false := by simp
    have HC := Lib.hid (fun W => cmp64_any al bl W)
    generalize (if (al : Int) < bl then (-1 : Int) else if (bl : Int) < al then 1 else 0) = r at *
    clear hm hn e1 e2
    go_enter Try.func212, Try.ntmps212
    go_wp2_with fail
    refine (HC.out _).mono ?_
    rintro e w1 ⟨rfl, rfl⟩
    go_wp2
    go_ret
    exact ⟨rfl, by (repeat (first | with_reducible exact Below.refl _ _ | with_reducible refine Bs ?_ | with_reducible refine Ba ?_ | with_reducible refine Bd ?_ | with_reducible refine Bn ?_))⟩
  · rw [cmp_hi h2 h4 he]
    have hq : ((ah : Int) != bh) = true := by simp; omega
    have HC := Lib.hid (fun W => cmp64_any ah bh W)
    generalize (if (ah : Int) < bh then (-1 : Int) else if (bh : Int) < ah then 1 else 0) = r at *
    clear hm hn e1 e2
    go_enter Try.func212, Try.ntmps212
    go_wp2_with fail
    refine (HC.out _).mono ?_
    rintro e w1 ⟨rfl, rfl⟩
    go_wp2
    go_ret
    exact ⟨rfl, by (repeat (first | with_reducible exact Below.refl _ _ | with_reducible refine Bs ?_ | with_reducible refine Ba ?_ | with_reducible refine Bd ?_ | with_reducible refine Bn ?_))⟩
end Go.Proofs.Ytjmjnkilgoelbaa

namespace Go.Proofs.Ytjmjnkilgoelbaa
open Go.RowKit

theorem wide_div {ah al d : Nat} (h2 : (al : Int) ≤ 18446744073709551615) (h0 : 0 < d) :
    (ah * 18446744073709551616 + al) / d = ah / d * 18446744073709551616 + (ah % d * 18446744073709551616 + al) / d ∧ (ah * 18446744073709551616 + al) % d = (ah % d * 18446744073709551616 + al) % d ∧ (ah % d * 18446744073709551616 + al) / d < 18446744073709551616 := by
  have e : ah * 18446744073709551616 + al = (ah % d * 18446744073709551616 + al) + d * (ah / d * 18446744073709551616) := by
    have := Nat.mod_add_div ah d
    calc ah * 18446744073709551616 + al = (ah % d + d * (ah / d)) * 18446744073709551616 + al := by rw [this]
      _ = _ := by rw [Nat.add_mul, Nat.mul_assoc]; omega
  refine ⟨?_, ?_, ?_⟩
  · rw [e, Nat.add_mul_div_left _ _ h0, Nat.add_comm]
  · rw [e, Nat.add_mul_mod_self_left]
  · rw [Nat.div_lt_iff_lt_mul h0]
    have h3 : ah % d + 1 ≤ d := Nat.mod_lt _ h0
    calc ah % d * 18446744073709551616 + al < (ah % d + 1) * 18446744073709551616 := by omega
      _ ≤ d * 18446744073709551616 := Nat.mul_le_mul_right _ h3
      _ = 18446744073709551616 * d := Nat.mul_comm _ _

/-- The root, bit by bit. -/
def rootF (a : Nat) : Nat → Nat → Nat
  | 0, r => r
  | k + 1, r => if (r + 2 ^ k) * (r + 2 ^ k) ≤ a then rootF a k (r + 2 ^ k) else rootF a k r

theorem rootF_law (a : Nat) : ∀ (k r : Nat), r * r ≤ a → a < (r + 2 ^ k) * (r + 2 ^ k) → rootF a k r * rootF a k r ≤ a ∧ a < (rootF a k r + 1) * (rootF a k r + 1) := by
  intro k
  induction k with
  | zero => intro r h1 h2; exact ⟨h1, h2⟩
  | succ k ih =>
    intro r h1 h2
    rw [rootF]
    split
    · rename_i h
      refine ih _ h ?_
      rw [show r + 2 ^ k + 2 ^ k = r + 2 ^ (k + 1) by rw [Nat.pow_succ]; omega]
      exact h2
    · rename_i h
      exact ih _ h1 (by omega)

theorem rootF_le (a : Nat) : ∀ (k r : Nat), rootF a k r < r + 2 ^ k + (if k = 0 then 1 else 0) := by
  intro k
  induction k with
  | zero => intro r; simp [rootF]; omega
  | succ k ih =>
    intro r
    rw [rootF, if_neg (show ¬ k + 1 = 0 by omega)]
    have h2 : 0 < 2 ^ k := Nat.pow_pos (by omega)
    have h3 : 2 ^ (k + 1) = 2 ^ k + 2 ^ k := by rw [Nat.pow_succ]; omega
    rcases Nat.eq_zero_or_pos k with h0 | h0
    · subst h0
      split <;> simp [rootF]
    · have e : (if k = 0 then 1 else 0) = 0 := if_neg (by omega)
      split
      · have := ih (r + 2 ^ k); omega
      · have := ih r; omega

theorem sq_lt {t : Nat} (h : (t : Int) ≤ 18446744073709551615) : t * t < T128 := by
  unfold T128
  have h1 : t ≤ 18446744073709551615 := by omega
  exact Nat.lt_of_le_of_lt (Nat.mul_le_mul h1 h1) (by decide)

def rootN (a : Nat) : Nat := rootF a 64 0

theorem or_pow {r k : Nat} (h : r % 2 ^ (k + 1) = 0) : r ||| 2 ^ k = r + 2 ^ k := by
  obtain ⟨q, hq⟩ : ∃ q, r = 2 ^ (k + 1) * q := ⟨r / 2 ^ (k + 1), by rw [Nat.mul_div_cancel' (Nat.dvd_of_mod_eq_zero h)]⟩
  have := Nat.two_pow_add_eq_or_of_lt (i := k + 1) (b := 2 ^ k) (Nat.pow_lt_pow_right (by omega) (by omega)) q
  rw [hq, this]

end Go.Proofs.Ytjmjnkilgoelbaa

namespace Go.Proofs.Ytjmjnkilgoelbaa
open Go.RowKit

theorem wsize_any (a : Int) (w : World) (h : Ok64 a) : Calls Try.prog 214 #[.int .i64 a] w fun e w' => e = .returned (.int .u64 (a.natAbs : Int)) ∧ w = w' := by
  unfold Ok64 at h
  by_cases hn : a < 0
  · have hw : IntKind.u64.wrap (-IntKind.u64.wrap a) = (a.natAbs : Int) := by simp only [IntKind.wrap_u64]; omega
    go_enter Try.func214, Try.ntmps214
    go_wp2
    go_ret
    exact ⟨rfl, rfl⟩
  · have hw : IntKind.u64.wrap a = (a.natAbs : Int) := by simp only [IntKind.wrap_u64]; omega
    go_enter Try.func214, Try.ntmps214
    go_wp2
    go_ret
    exact ⟨ret_int (by omega), rfl⟩

def sgn (a : Int) : Int := if a < 0 then -1 else if 0 < a then 1 else 0

theorem cmpi_any (x y : Int) (w : World) : Calls Try.prog 211 #[.int .i64 x, .int .i64 y] w fun e w' => e = .returned (.int .i64 (if x < y then -1 else if y < x then 1 else 0)) ∧ w = w' := by
  by_cases h1 : x < y
  · rw [if_pos h1]
    go_enter Try.func211, Try.ntmps211
    go_wp2
    go_ret
    exact ⟨rfl, rfl⟩
  · rw [if_neg h1]
    by_cases h2 : y < x
    · rw [if_pos h2]
      go_enter Try.func211, Try.ntmps211
      go_wp2
      go_ret
      exact ⟨rfl, rfl⟩
    · rw [if_neg h2]
      go_enter Try.func211, Try.ntmps211
      go_wp2
      go_ret
      exact ⟨rfl, rfl⟩

theorem sgn_bd (a : Int) : -1 ≤ sgn a ∧ sgn a ≤ 1 := by unfold sgn; repeat' split <;> omega

theorem wsign_any (a b : Int) (w : World) : Calls Try.prog 210 #[.int .i64 a, .int .i64 b] w fun e w' => e = .returned (.int .i64 (sgn a * sgn b)) ∧ w = w' := by
  have h1 := fun x W => cmpi_any x 0 W
  have ea : (if a < 0 then (-1 : Int) else if 0 < a then 1 else 0) = sgn a := rfl
  have eb : (if b < 0 then (-1 : Int) else if 0 < b then 1 else 0) = sgn b := rfl
  have ha := h1 a; have hb := h1 b
  rw [ea] at ha; rw [eb] at hb
  have b1 := sgn_bd a; have b2 := sgn_bd b
  generalize sgn a = x at *
  generalize sgn b = y at *
  have hw : wrap64 (x * y) = x * y := by
    have : x = -1 ∨ x = 0 ∨ x = 1 := by omega
    rcases this with rfl | rfl | rfl <;> exact IntWalk.wrap64_in _ (by omega)
  have HA := Lib.hid ha; have HB := Lib.hid hb; have HW := Lib.hid hw
  clear h1 ha hb ea eb hw
  go_enter Try.func210, Try.ntmps210
  go_wp2_with fail
  refine (HA.out _).mono ?_
  rintro e w1 ⟨rfl, rfl⟩
  go_wp2_with fail
  refine (HB.out _).mono ?_
  rintro e w1 ⟨rfl, rfl⟩
  go_wp2
  go_ret
  exact ⟨ret_int HW.out, rfl⟩

/-- How two products lie. -/
def prodsI (a b c d : Int) : Int := sgn (a * b - c * d)

theorem sgn_mul (a b : Int) : sgn (a * b) = sgn a * sgn b := by
  unfold sgn
  rcases Int.lt_trichotomy a 0 with h1 | h1 | h1 <;> rcases Int.lt_trichotomy b 0 with h2 | h2 | h2
  · have := Int.mul_pos_of_neg_of_neg h1 h2
    rw [if_neg (show ¬ a * b < 0 by omega), if_pos this, if_pos h1, if_pos h2]; rfl
  · subst h2; simp
  · have := Int.mul_neg_of_neg_of_pos h1 h2
    rw [if_pos this, if_pos h1, if_neg (show ¬ b < 0 by omega), if_pos h2]; rfl
  · subst h1; simp
  · subst h1; simp
  · subst h1; simp
  · have := Int.mul_neg_of_pos_of_neg h1 h2
    rw [if_pos this, if_neg (show ¬ a < 0 by omega), if_pos h1, if_pos h2]; rfl
  · subst h2; simp
  · have := Int.mul_pos h1 h2
    rw [if_neg (show ¬ a * b < 0 by omega), if_pos this, if_neg (show ¬ a < 0 by omega), if_pos h1, if_neg (show ¬ b < 0 by omega), if_pos h2]; rfl

theorem sgn_diff (x y : Int) (h : sgn x ≠ sgn y) : sgn (x - y) = if sgn x < sgn y then -1 else if sgn y < sgn x then 1 else 0 := by
  unfold sgn at *
  repeat' split at h
  all_goals (repeat' split) <;> omega
theorem sgn_same (x y : Int) (h : sgn x = sgn y) : sgn (x - y) = sgn x * cmpN x.natAbs y.natAbs := by
  unfold sgn cmpN at *
  repeat' split at h
  all_goals (repeat' split) <;> omega

set_option maxRecDepth 100000 in
set_option maxHeartbeats 1000000 in
theorem wProds_any (a b c d : Int) (w : World) (ha : Ok64 a) (hb : Ok64 b) (hc : Ok64 c) (hd : Ok64 d) :
    Calls Try.prog 194 #[.int .i64 a, .int .i64 b, .int .i64 c, .int .i64 d] w fun e w' => e = .returned (.int .i64 (prodsI a b c d)) ∧ Below w.heap.size w w' := by
  have hs := fun W => wsign_any a b W
  have ht := fun W => wsign_any c d W
  rw [← sgn_mul] at hs ht
  have hsz : ∀ x, Ok64 x → ((x.natAbs : Nat) : Int) ≤ 18446744073709551615 := fun x h => by unfold Ok64 at h; omega
  have ka := hsz a ha; have kb := hsz b hb; have kc := hsz c hc; have kd := hsz d hd
  have g1 := fun W => wsize_any a W ha; have g2 := fun W => wsize_any b W hb; have g3 := fun W => wsize_any c W hc; have g4 := fun W => wsize_any d W hd
  have hm1 : (a * b).natAbs = a.natAbs * b.natAbs := Int.natAbs_mul a b
  have hm2 : (c * d).natAbs = c.natAbs * d.natAbs := Int.natAbs_mul c d
  have t1 : ∀ {x y : Nat}, (x : Int) ≤ 18446744073709551615 → (y : Int) ≤ 18446744073709551615 → x * y < T128 := fun {x y} h1 h2 => by
    unfold T128
    exact Nat.lt_of_le_of_lt (Nat.mul_le_mul (show x ≤ 18446744073709551615 by omega) (show y ≤ 18446744073709551615 by omega)) (by decide)
  have hq := fun W => wCmp_any (a.natAbs * b.natAbs) (c.natAbs * d.natAbs) W (t1 ka kb) (t1 kc kd)
  have e1 := sgn_diff (a * b) (c * d)
  have e2 := sgn_same (a * b) (c * d)
  rw [hm1, hm2] at e2
  have b1 := sgn_bd (a * b); have b2 := sgn_bd (c * d)
  unfold prodsI
  have b3 : -1 ≤ cmpN (a.natAbs * b.natAbs) (c.natAbs * d.natAbs) ∧ cmpN (a.natAbs * b.natAbs) (c.natAbs * d.natAbs) ≤ 1 := by unfold cmpN; repeat' split <;> omega
  generalize sgn (a * b) = x at *
  generalize sgn (c * d) = y at *
  generalize sgn (a * b - c * d) = z at *
  have m1 := fun W => wMul_any a.natAbs b.natAbs W ka kb
  have m2 := fun W => wMul_any c.natAbs d.natAbs W kc kd
  generalize cmpN (a.natAbs * b.natAbs) (c.natAbs * d.natAbs) = r at *
  have HS := Lib.hid hs; have HT := Lib.hid ht; have G1 := Lib.hid g1; have G2 := Lib.hid g2; have G3 := Lib.hid g3; have G4 := Lib.hid g4; have HQ := Lib.hid hq; have M1 := Lib.hid m1; have M2 := Lib.hid m2
  clear hs ht g1 g2 g3 g4 hq m1 m2 ka kb kc kd t1 hsz hm1 hm2 ha hb hc hd
  by_cases hxy : x = y
  · have hz := e2 hxy
    have hq : (x != y) = false := by simp [hxy]
    have hw : wrap64 (x * r) = x * r := by
      have : x = -1 ∨ x = 0 ∨ x = 1 := by omega
      rcases this with h | h | h <;> rw [h] <;> exact IntWalk.wrap64_in _ (by omega)
    have HZ := Lib.hid hz; have HXY := Lib.hid hxy; have HW := Lib.hid hw
    clear e1 e2 hz hxy hw
    go_enter Try.func194, Try.ntmps194
    go_wp2_with fail
    refine (HS.out _).mono ?_
    rintro e w1 ⟨rfl, rfl⟩
    go_wp2_with fail
    refine (HT.out _).mono ?_
    rintro e w1 ⟨rfl, rfl⟩
    go_wp2_with fail
    refine (G1.out _).mono ?_
    rintro e w1 ⟨rfl, rfl⟩
    go_wp2_with fail
    refine (G2.out _).mono ?_
    rintro e w1 ⟨rfl, rfl⟩
    go_wp2_with fail
    refine (M1.out _).mono ?_
    rintro e w1 ⟨rfl, b1⟩
    have B1 := Lib.hid b1
    clear b1
    go_wp2_with fail
    refine (G3.out _).mono ?_
    rintro e w2 ⟨rfl, rfl⟩
    go_wp2_with fail
    refine (G4.out _).mono ?_
    rintro e w2 ⟨rfl, rfl⟩
    go_wp2_with fail
    refine (M2.out _).mono ?_
    rintro e w2 ⟨rfl, b2⟩
    have B2 := Lib.hid (B1.out.trans (b2.mono B1.out.size))
    clear b2
    go_wp2_with fail
    refine (HQ.out _).mono ?_
    rintro e w3 ⟨rfl, b3⟩
    have B3 := Lib.hid (B2.out.trans (b3.mono B2.out.size))
    clear b3
    go_wp2
    go_ret
    exact ⟨ret_int (HW.out.trans HZ.out.symm), B3.out⟩
  · have hz := e1 hxy
    have hq : (x != y) = true := by simpa using hxy
    have hcp := fun W => cmpi_any x y W
    rw [← hz] at hcp
    have HC := Lib.hid hcp
    clear e1 e2 hz hxy hcp
    go_enter Try.func194, Try.ntmps194
    go_wp2_with fail
    refine (HS.out _).mono ?_
    rintro e w1 ⟨rfl, rfl⟩
    go_wp2_with fail
    refine (HT.out _).mono ?_
    rintro e w1 ⟨rfl, rfl⟩
    go_wp2_with fail
    refine (HC.out _).mono ?_
    rintro e w1 ⟨rfl, rfl⟩
    go_wp2
    go_ret
    exact ⟨rfl, Below.refl _ _⟩
end Go.Proofs.Ytjmjnkilgoelbaa

namespace Go.Proofs.Ytjmjnkilgoelbaa
open Go.RowKit

/-- A right score. -/
def scoreB (s : Int × Int) : Bool := decide ((1 ≤ s.2 ∧ s.2 ≤ 16) ∧ (0 ≤ s.1 ∧ s.1 ≤ 274877906944) ∧ gcdZ s.1 s.2 = 1)

theorem scoreB_is {s : Int × Int} : scoreB s = true ↔ (1 ≤ s.2 ∧ s.2 ≤ 16) ∧ (0 ≤ s.1 ∧ s.1 ≤ 274877906944) ∧ gcdZ s.1 s.2 = 1 := by
  unfold scoreB
  exact decide_eq_true_iff

/-- How two right ones lie. -/
def oddI (a b : Int × Int) : Int := if a.1 * b.2 < b.1 * a.2 then 1 else if b.1 * a.2 < a.1 * b.2 then -1 else 0

theorem prods_odd (a b : Int × Int) : prodsI b.1 a.2 a.1 b.2 = oddI a b := by
  unfold prodsI oddI sgn
  split <;> split <;> (try split) <;> omega

theorem oddI_self (a : Int × Int) : oddI a a = 0 := by unfold oddI; simp

theorem odd_turn (a b : Int × Int) : oddI b a = -oddI a b := by
  unfold oddI
  split <;> split <;> (try split) <;> omega

theorem odd_le {a b : Int × Int} : oddI a b ≤ 0 ↔ b.1 * a.2 ≤ a.1 * b.2 := by
  unfold oddI
  split
  · omega
  · split <;> omega

theorem odd_trans {a b c : Int × Int} (ha : scoreB a = true) (hb : scoreB b = true) (hc : scoreB c = true) (h1 : oddI a b ≤ 0) (h2 : oddI b c ≤ 0) : oddI a c ≤ 0 := by
  rw [odd_le] at *
  obtain ⟨⟨a1, _⟩, ⟨a2, _⟩, _⟩ := scoreB_is.1 ha
  obtain ⟨⟨b1, _⟩, ⟨b2, _⟩, _⟩ := scoreB_is.1 hb
  obtain ⟨⟨c1, _⟩, ⟨c2, _⟩, _⟩ := scoreB_is.1 hc
  have e1 := Int.mul_le_mul_of_nonneg_right h1 (show 0 ≤ c.2 by omega)
  have e2 := Int.mul_le_mul_of_nonneg_right h2 (show 0 ≤ a.2 by omega)
  have e3 : b.2 * (c.1 * a.2) ≤ b.2 * (a.1 * c.2) := by
    calc b.2 * (c.1 * a.2) = c.1 * b.2 * a.2 := by rw [Int.mul_comm c.1 b.2, Int.mul_assoc]
      _ ≤ b.1 * c.2 * a.2 := e2
      _ = b.1 * a.2 * c.2 := by rw [Int.mul_right_comm]
      _ ≤ a.1 * b.2 * c.2 := e1
      _ = b.2 * (a.1 * c.2) := by rw [Int.mul_comm a.1 b.2, Int.mul_assoc]
  exact Int.le_of_mul_le_mul_left e3 (by omega)

theorem odd_zero {a b : Int × Int} (ha : scoreB a = true) (hb : scoreB b = true) (h : oddI a b = 0) : a = b := by
  obtain ⟨⟨a1, _⟩, ⟨a2, _⟩, a3⟩ := scoreB_is.1 ha
  obtain ⟨⟨b1, _⟩, ⟨b2, _⟩, b3⟩ := scoreB_is.1 hb
  have e : a.1 * b.2 = b.1 * a.2 := by
    unfold oddI at h
    split at h
    · omega
    · split at h <;> omega
  obtain ⟨p, q⟩ := a
  obtain ⟨r, s⟩ := b
  simp only at *
  obtain ⟨p, rfl⟩ := Int.eq_ofNat_of_zero_le a2
  obtain ⟨r, rfl⟩ := Int.eq_ofNat_of_zero_le b2
  obtain ⟨q, rfl⟩ := Int.eq_ofNat_of_zero_le (show 0 ≤ q by omega)
  obtain ⟨s, rfl⟩ := Int.eq_ofNat_of_zero_le (show 0 ≤ s by omega)
  unfold gcdZ at a3 b3
  simp only [Int.natAbs_natCast] at a3 b3
  have a4 : Nat.Coprime p q := by unfold Nat.Coprime; omega
  have b4 : Nat.Coprime r s := by unfold Nat.Coprime; omega
  have e' : p * s = r * q := by
    have : ((p * s : Nat) : Int) = ((r * q : Nat) : Int) := by rw [Int.natCast_mul, Int.natCast_mul]; exact e
    omega
  have d1 : q ∣ s := a4.symm.dvd_of_dvd_mul_left (by rw [e']; exact Nat.dvd_mul_left q r)
  have d2 : s ∣ q := b4.symm.dvd_of_dvd_mul_left (by rw [← e']; exact Nat.dvd_mul_left s p)
  have hq : q = s := Nat.dvd_antisymm d1 d2
  subst hq
  have hp : p = r := Nat.eq_of_mul_eq_mul_right (by omega) e'
  rw [hp]

theorem odd_total (a b : Int × Int) : oddI a b ≤ 0 ∨ oddI b a ≤ 0 := by
  have := odd_turn a b
  omega

/-! ### in order -/
def SortedS (l : List (Int × Int)) : Prop := l.Pairwise fun a b => oddI a b ≤ 0

def allS (l : List (Int × Int)) : Bool := l.all scoreB

theorem allS_mem {l : List (Int × Int)} (h : allS l = true) {s : Int × Int} (hs : s ∈ l) : scoreB s = true := List.all_eq_true.1 h s hs
theorem allS_perm {l l' : List (Int × Int)} (h : allS l = true) (hp : l.Perm l') : allS l' = true := by
  unfold allS at *
  rw [List.all_eq_true] at *
  exact fun x hx => h x (hp.mem_iff.2 hx)

/-- Two rows in order of the same scores are the same. -/
theorem sorted_same : ∀ (a b : List (Int × Int)), SortedS a → SortedS b → a.Perm b → allS a = true → a = b
  | [], b, _, _, hp, _ => (List.nil_perm.1 hp).symm
  | x :: a, [], _, _, hp, _ => by simpa using hp.length_eq
  | x :: a, y :: b, ha, hb, hp, hs => by
    have hsb := allS_perm hs hp
    have h1 := (List.pairwise_cons.1 ha).1
    have h2 := (List.pairwise_cons.1 hb).1
    have hxy : x = y := by
      have m1 : y ∈ x :: a := hp.mem_iff.2 (by simp)
      have m2 : x ∈ y :: b := hp.mem_iff.1 (by simp)
      rcases List.mem_cons.1 m1 with e | e
      · exact e.symm
      · rcases List.mem_cons.1 m2 with e' | e'
        · exact e'
        · have o1 := h1 y e
          have o2 := h2 x e'
          have := odd_turn x y
          exact odd_zero (allS_mem hs (by simp)) (allS_mem hsb (by simp)) (by omega)
    subst hxy
    have hp' : a.Perm b := (List.perm_cons x).1 hp
    rw [sorted_same a b (List.pairwise_cons.1 ha).2 (List.pairwise_cons.1 hb).2 hp' (by unfold allS at *; simp at hs ⊢; exact hs.2)]

/-- Behind those that are not odder. -/
def cutAt (x : Int × Int) : List (Int × Int) → Nat
  | [] => 0
  | y :: l => if oddI y x ≤ 0 then cutAt x l + 1 else 0

def insS (l : List (Int × Int)) (x : Int × Int) : List (Int × Int) := l.take (cutAt x l) ++ x :: l.drop (cutAt x l)
def sortS (l : List (Int × Int)) : List (Int × Int) := l.foldl insS []

theorem cutAt_le (x : Int × Int) : ∀ l, cutAt x l ≤ l.length
  | [] => Nat.le_refl _
  | y :: l => by
    unfold cutAt
    split
    · have := cutAt_le x l; simp; omega
    · omega

theorem insS_cons (y x : Int × Int) (l : List (Int × Int)) : insS (y :: l) x = if oddI y x ≤ 0 then y :: insS l x else x :: y :: l := by
  have e : cutAt x (y :: l) = if oddI y x ≤ 0 then cutAt x l + 1 else 0 := rfl
  unfold insS
  rw [e]
  by_cases h : oddI y x ≤ 0
  · rw [if_pos h, if_pos h]; simp
  · rw [if_neg h, if_neg h]; simp

theorem insS_perm (x : Int × Int) : ∀ l, (insS l x).Perm (x :: l)
  | [] => by simp [insS]
  | y :: l => by
    rw [insS_cons]
    split
    · exact ((insS_perm x l).cons y).trans (List.Perm.swap x y l)
    · exact List.Perm.refl _

theorem insS_sorted {x : Int × Int} (hx : scoreB x = true) : ∀ l, allS l = true → SortedS l → SortedS (insS l x)
  | [], _, _ => by simp [insS, SortedS]
  | y :: l, ha, h => by
    have hy : scoreB y = true := allS_mem ha (by simp)
    have hal : allS l = true := by unfold allS at *; simp at ha ⊢; exact ha.2
    obtain ⟨h1, h2⟩ := List.pairwise_cons.1 h
    rw [insS_cons]
    split
    · next hle =>
      refine List.pairwise_cons.2 ⟨fun z hz => ?_, insS_sorted hx l hal h2⟩
      rcases List.mem_cons.1 ((insS_perm x l).mem_iff.1 hz) with rfl | hz
      · exact hle
      · exact h1 z hz
    · next hle =>
      have hxy : oddI x y ≤ 0 := by have := odd_turn x y; omega
      refine List.pairwise_cons.2 ⟨fun z hz => ?_, h⟩
      rcases List.mem_cons.1 hz with rfl | hz
      · exact hxy
      · exact odd_trans hx hy (allS_mem hal hz) hxy (h1 z hz)

theorem foldl_ins : ∀ (l acc : List (Int × Int)), allS l = true → allS acc = true → SortedS acc → (l.foldl insS acc).Perm (acc ++ l) ∧ SortedS (l.foldl insS acc)
  | [], acc, _, _, h => by simp [h]
  | x :: l, acc, ha, hb, h => by
    have hx : scoreB x = true := allS_mem ha (by simp)
    have hal : allS l = true := by unfold allS at *; simp at ha ⊢; exact ha.2
    have hp := insS_perm x acc
    have hb' : allS (insS acc x) = true := allS_perm (by unfold allS at *; simp [hx, hb]) hp.symm
    obtain ⟨i1, i2⟩ := foldl_ins l (insS acc x) hal hb' (insS_sorted hx acc hb h)
    refine ⟨i1.trans ?_, i2⟩
    exact (hp.append_right l).trans (List.perm_middle (l₁ := acc)).symm

theorem sortS_ok {l : List (Int × Int)} (h : allS l = true) : (sortS l).Perm l ∧ SortedS (sortS l) := by
  have := foldl_ins l [] h rfl List.Pairwise.nil
  simpa [sortS] using this

/-- Two rows put together. -/
def mergeS : List (Int × Int) → List (Int × Int) → List (Int × Int)
  | [], b => b
  | x :: a, [] => x :: a
  | x :: a, y :: b => if oddI y x < 0 then y :: mergeS (x :: a) b else x :: mergeS a (y :: b)
termination_by a b => a.length + b.length

theorem mergeS_perm : ∀ (a b : List (Int × Int)), (mergeS a b).Perm (a ++ b)
  | [], b => by simp [mergeS]
  | x :: a, [] => by simp [mergeS]
  | x :: a, y :: b => by
    unfold mergeS
    split
    · exact ((mergeS_perm (x :: a) b).cons y).trans (List.perm_middle (l₁ := x :: a)).symm
    · exact (mergeS_perm a (y :: b)).cons x
termination_by a b => a.length + b.length

theorem mergeS_sorted : ∀ (a b : List (Int × Int)), allS a = true → allS b = true → SortedS a → SortedS b → SortedS (mergeS a b)
  | [], b, _, _, _, hb => by simpa [mergeS] using hb
  | x :: a, [], _, _, ha, _ => by simpa [mergeS] using ha
  | x :: a, y :: b, sa, sb, ha, hb => by
    have hx : scoreB x = true := allS_mem sa (by simp)
    have hy : scoreB y = true := allS_mem sb (by simp)
    have sa' : allS a = true := by unfold allS at *; simp at sa ⊢; exact sa.2
    have sb' : allS b = true := by unfold allS at *; simp at sb ⊢; exact sb.2
    obtain ⟨a1, a2⟩ := List.pairwise_cons.1 ha
    obtain ⟨b1, b2⟩ := List.pairwise_cons.1 hb
    unfold mergeS
    split
    · next hlt =>
      refine List.pairwise_cons.2 ⟨fun z hz => ?_, mergeS_sorted (x :: a) b sa sb' ha b2⟩
      rcases List.mem_append.1 ((mergeS_perm (x :: a) b).mem_iff.1 hz) with hz | hz
      · rcases List.mem_cons.1 hz with rfl | hz
        · omega
        · exact odd_trans hy hx (allS_mem sa' hz) (by omega) (a1 z hz)
      · exact b1 z hz
    · next hlt =>
      have hxy : oddI x y ≤ 0 := by have := odd_turn x y; omega
      refine List.pairwise_cons.2 ⟨fun z hz => ?_, mergeS_sorted a (y :: b) sa' sb a2 hb⟩
      rcases List.mem_append.1 ((mergeS_perm a (y :: b)).mem_iff.1 hz) with hz | hz
      · exact a1 z hz
      · rcases List.mem_cons.1 hz with rfl | hz
        · exact hxy
        · exact odd_trans hx hy (allS_mem sb' hz) hxy (b1 z hz)
termination_by a b => a.length + b.length

/-- Halves, put together. -/
def halfS (l : List (Int × Int)) : List (Int × Int) :=
  if h : l.length < 2 then l else mergeS (halfS (l.take (l.length / 2))) (halfS (l.drop (l.length / 2)))
termination_by l.length
decreasing_by
  · simp only [List.length_take]; omega
  · simp only [List.length_drop]; omega

theorem halfS_ok : ∀ (n : Nat) (l : List (Int × Int)), l.length ≤ n → allS l = true → (halfS l).Perm l ∧ SortedS (halfS l)
  | 0, l, hn, h => by
    have : l = [] := List.eq_nil_of_length_eq_zero (by omega)
    subst this
    unfold halfS
    simp [SortedS]
  | n + 1, l, hn, h => by
    unfold halfS
    by_cases h2 : l.length < 2
    · rw [dif_pos h2]
      refine ⟨List.Perm.refl _, ?_⟩
      match l, h2 with
      | [], _ => exact List.Pairwise.nil
      | [x], _ => exact List.pairwise_singleton _ _
      | x :: y :: l, h2 => simp at h2; omega
    · rw [dif_neg h2]
      have t1 : allS (l.take (l.length / 2)) = true := by unfold allS at *; rw [List.all_eq_true] at *; exact fun x hx => h x (List.mem_of_mem_take hx)
      have t2 : allS (l.drop (l.length / 2)) = true := by unfold allS at *; rw [List.all_eq_true] at *; exact fun x hx => h x (List.mem_of_mem_drop hx)
      obtain ⟨p1, s1⟩ := halfS_ok n (l.take (l.length / 2)) (by rw [List.length_take]; omega) t1
      obtain ⟨p2, s2⟩ := halfS_ok n (l.drop (l.length / 2)) (by rw [List.length_drop]; omega) t2
      have a1 := allS_perm t1 p1.symm
      have a2 := allS_perm t2 p2.symm
      refine ⟨(mergeS_perm _ _).trans ?_, mergeS_sorted _ _ a1 a2 s1 s2⟩
      have := p1.append p2
      rwa [List.take_append_drop] at this

theorem half_sort {l : List (Int × Int)} (h : allS l = true) : halfS l = sortS l := by
  obtain ⟨p1, s1⟩ := halfS_ok l.length l (Nat.le_refl _) h
  obtain ⟨p2, s2⟩ := sortS_ok h
  exact sorted_same _ _ s1 s2 (p1.trans p2.symm) (allS_perm h p1.symm)

/-! ### the line -/
def indexBad (n part whole : Int) : Prop := n < 1 ∨ 4096 < n ∨ whole < 2 ∨ 1000 < whole ∨ part < 1 ∨ whole ≤ part
instance (n part whole : Int) : Decidable (indexBad n part whole) := by unfold indexBad; infer_instance
def indexE (n part whole : Int) : Int := if indexBad n part whole then 1 else 0
def indexV (n part whole : Int) : Int := if indexBad n part whole then 0 else ceilV ((whole - part) * n) whole

theorem ceil_le {a b v : Int} (hb : 0 < b) : ceilV a b ≤ v ↔ a ≤ b * v := by
  unfold ceilV
  rw [if_neg (by omega)]
  have h0 := Int.emod_nonneg a (show b ≠ 0 by omega)
  have h1 := Int.emod_lt_of_pos a hb
  have h2 := Int.mul_ediv_add_emod a b
  constructor
  · intro h
    split at h
    · have := Int.mul_le_mul_of_nonneg_left h (show 0 ≤ b by omega)
      rw [Int.mul_add, Int.mul_one] at this
      omega
    · have := Int.mul_le_mul_of_nonneg_left h (show 0 ≤ b by omega)
      omega
  · intro h
    have h3 : b * (a / b) ≤ b * v := by omega
    have h4 := Int.le_of_mul_le_mul_left h3 hb
    split
    · rcases Int.lt_or_eq_of_le h4 with h5 | h5
      · omega
      · rw [h5] at h2; omega
    · exact h4

theorem index_is {n part whole : Int} (h : ¬ indexBad n part whole) : (1 ≤ indexV n part whole ∧ indexV n part whole ≤ n) ∧ (whole - part) * n ≤ whole * indexV n part whole ∧ whole * (indexV n part whole - 1) < (whole - part) * n := by
  have hb := h
  unfold indexBad at h
  unfold indexV
  rw [if_neg hb]
  have hw : 0 < whole := by omega
  have k1 : (whole - part) * n ≤ whole * ceilV ((whole - part) * n) whole := (ceil_le hw).1 (Int.le_refl _)
  have k2 : ¬ (whole - part) * n ≤ whole * (ceilV ((whole - part) * n) whole - 1) := fun hh => by
    have := (ceil_le hw).2 hh
    omega
  have k3 : ceilV ((whole - part) * n) whole ≤ n := (ceil_le hw).2 (Int.mul_le_mul_of_nonneg_right (by omega) (by omega))
  have k4 : ¬ ceilV ((whole - part) * n) whole ≤ 0 := fun hh => by
    have := (ceil_le hw).1 hh
    have hp : 0 < (whole - part) * n := Int.mul_pos (by omega) (by omega)
    omega
  exact ⟨⟨by omega, k3⟩, k1, by omega⟩

theorem index_least {n part whole k : Int} (h : ¬ indexBad n part whole) (hk : (whole - part) * n ≤ k * whole) : indexV n part whole ≤ k := by
  have hb := h
  unfold indexBad at h
  unfold indexV
  rw [if_neg hb]
  exact (ceil_le (by omega)).2 (by rw [Int.mul_comm whole k]; exact hk)

theorem index_next {n part whole : Int} (h : ¬ indexBad n part whole) (h' : ¬ indexBad (n + 1) part whole) : indexV (n + 1) part whole = indexV n part whole ∨ indexV (n + 1) part whole = indexV n part whole + 1 := by
  obtain ⟨⟨a1, a2⟩, a3, a4⟩ := index_is h
  obtain ⟨⟨b1, b2⟩, b3, b4⟩ := index_is h'
  have hw : 2 ≤ whole ∧ 1 ≤ part ∧ part < whole := by unfold indexBad at h; omega
  have e : (whole - part) * (n + 1) = (whole - part) * n + (whole - part) := by rw [Int.mul_add, Int.mul_one]
  rw [e] at b3 b4
  have h1 : indexV n part whole ≤ indexV (n + 1) part whole := index_least h (by rw [Int.mul_comm (indexV (n + 1) part whole) whole]; omega)
  have h2 : indexV (n + 1) part whole ≤ indexV n part whole + 1 := index_least h' (by
    rw [e, Int.add_mul, Int.one_mul, Int.mul_comm (indexV n part whole) whole]
    omega)
  omega

def lineE (l : List (Int × Int)) (part whole : Int) : Int := if indexBad l.length part whole then 1 else if allS l = true then 0 else 130
def countP (line : Int × Int) (l : List (Int × Int)) : Nat := l.countP fun s => decide (0 ≤ oddI s line)
def oddP (line : Int × Int) (l : List (Int × Int)) : Nat := l.countP fun s => decide (0 < oddI s line)
def lineV (l : List (Int × Int)) (part whole : Int) : Int × Int := if lineE l part whole = 0 then (sortS l).getD ((indexV l.length part whole).toNat - 1) (0, 0) else (0, 0)

theorem sortS_len {l : List (Int × Int)} (h : allS l = true) : (sortS l).length = l.length := (sortS_ok h).1.length_eq

theorem line_ok {l : List (Int × Int)} {part whole : Int} (h : lineE l part whole = 0) : ¬ indexBad l.length part whole ∧ allS l = true := by
  unfold lineE at h
  split at h
  · omega
  · split at h
    · exact ⟨by assumption, by assumption⟩
    · omega

/-- No more than part of whole are odder than the line, more than that are over it. -/
theorem shares {l : List (Int × Int)} {part whole : Int} (h : lineE l part whole = 0) :
    scoreB (lineV l part whole) = true ∧ (oddP (lineV l part whole) l : Int) * whole ≤ part * l.length ∧ part * l.length < (countP (lineV l part whole) l : Int) * whole := by
  obtain ⟨hb, hs⟩ := line_ok h
  obtain ⟨⟨k1, k2⟩, k3, k4⟩ := index_is hb
  obtain ⟨hp, hso⟩ := sortS_ok hs
  have hlen := hp.length_eq
  have hw : 2 ≤ whole := by unfold indexBad at hb; omega
  unfold lineV
  rw [if_pos h]
  obtain ⟨k, hk⟩ : ∃ k : Nat, indexV l.length part whole = (k : Int) + 1 := ⟨(indexV l.length part whole - 1).toNat, by omega⟩
  rw [hk] at k1 k2 k3 k4 ⊢
  rw [show ((k : Int) + 1).toNat - 1 = k by omega]
  have hkl : k < (sortS l).length := by omega
  obtain ⟨x, hx⟩ := getElem?_ex hkl
  rw [getD_of hx]
  have hsp : sortS l = (sortS l).take k ++ x :: (sortS l).drop (k + 1) := by
    conv => lhs; rw [← List.take_append_drop k (sortS l)]
    rw [List.drop_eq_getElem_cons hkl]
    have : (sortS l)[k] = x := (List.getElem?_eq_some_iff.1 hx).2
    rw [this]
  have hso' := hso
  unfold SortedS at hso'
  rw [hsp] at hso'
  obtain ⟨_, s2, s3⟩ := List.pairwise_append.1 hso'
  obtain ⟨s4, _⟩ := List.pairwise_cons.1 s2
  have hl1 : ((sortS l).drop (k + 1)).length = l.length - (k + 1) := by rw [List.length_drop, hlen]
  have c1 : l.length - k ≤ countP x l := by
    unfold countP
    rw [← hp.countP_eq, hsp, List.countP_append]
    have : (x :: (sortS l).drop (k + 1)).countP (fun s => decide (0 ≤ oddI s x)) = (x :: (sortS l).drop (k + 1)).length := by
      rw [List.countP_eq_length]
      intro z hz
      rcases List.mem_cons.1 hz with rfl | hz
      · rw [oddI_self]; rfl
      · have h1 := s4 z hz
        have h2 := odd_turn x z
        exact decide_eq_true (by omega)
    rw [this, List.length_cons, hl1]
    omega
  have c2 : oddP x l ≤ l.length - (k + 1) := by
    unfold oddP
    rw [← hp.countP_eq, hsp, List.countP_append, List.countP_cons]
    have e1 : ((sortS l).take k).countP (fun s => decide (0 < oddI s x)) = 0 := by
      rw [List.countP_eq_zero]
      intro z hz
      have := s3 z hz x (by simp)
      simpa using this
    have e2 : (decide (0 < oddI x x)) = false := by rw [oddI_self]; rfl
    rw [e1, e2]
    have := List.countP_le_length (p := fun s => decide (0 < oddI s x)) (l := (sortS l).drop (k + 1))
    simp
    omega
  refine ⟨allS_mem (allS_perm hs hp.symm) (List.mem_of_getElem? hx), ?_, ?_⟩
  · have h1 : (oddP x l : Int) * whole ≤ ((l.length : Int) - (k + 1)) * whole := Int.mul_le_mul_of_nonneg_right (by omega) (by omega)
    have h2 : ((l.length : Int) - (k + 1)) * whole = l.length * whole - whole * (k + 1) := by rw [Int.sub_mul, Int.mul_comm whole]
    have h3 : (whole - part) * l.length = l.length * whole - part * l.length := by rw [Int.sub_mul, Int.mul_comm whole]
    omega
  · have h1 : ((l.length : Int) - k) * whole ≤ (countP x l : Int) * whole := Int.mul_le_mul_of_nonneg_right (by omega) (by omega)
    have h2 : ((l.length : Int) - k) * whole = l.length * whole - whole * k := by rw [Int.sub_mul, Int.mul_comm whole]
    have h3 : (whole - part) * l.length = l.length * whole - part * l.length := by rw [Int.sub_mul, Int.mul_comm whole]
    have h4 : whole * ((k : Int) + 1 - 1) = whole * k := by rw [Int.add_sub_cancel]
    omega
end Go.Proofs.Ytjmjnkilgoelbaa

namespace Go.Proofs.Ytjmjnkilgoelbaa
open Go.RowKit

/-- v is a slice of pairs of integers. -/
def PairsR (w : World) (v : Value) (l : List (Int × Int)) : Prop :=
  ∃ a c, v = .slice a l.length c ∧ l.length ≤ c ∧ c ≤ 9223372036854775807 ∧ l.length ≤ 140737488351232 ∧ ∀ (i : Nat) (p : Int × Int), l[i]? = some p →
    ∃ b o, a = some ⟨b, o, none⟩ ∧ b < w.heap.size ∧ w.cell? ⟨b, o + i * 2, none⟩ = some (.int .i64 p.1) ∧ w.cell? ⟨b, o + i * 2 + 1, none⟩ = some (.int .i64 p.2)

theorem PairsR.shape {w : World} {v : Value} {l : List (Int × Int)} (h : PairsR w v l) : ∃ a c, v = .slice a l.length c := by
  obtain ⟨a, c, e, _⟩ := h
  exact ⟨a, c, e⟩

theorem PairsR.below {w w' : World} {v : Value} {l : List (Int × Int)} (h : PairsR w v l) (B : Below w.heap.size w w') : PairsR w' v l := by
  obtain ⟨a, c, e, h1, h2, h3, h⟩ := h
  refine ⟨a, c, e, h1, h2, h3, fun i p hi => ?_⟩
  obtain ⟨b, o, e, hb, c0, c1⟩ := h i p hi
  exact ⟨b, o, e, Nat.lt_of_lt_of_le hb B.size, (B.cell (p := ⟨b, _, none⟩) hb).trans c0, (B.cell (p := ⟨b, _, none⟩) hb).trans c1⟩

theorem PairsR.drewN {w : World} {v : Value} {l : List (Int × Int)} (h : PairsR w v l) (n : Nat) : PairsR (w.drewN n) v l := h.below (below_drewN (Below.refl _ _) n)

theorem pairs_nil (w : World) (a : Option Addr) (c : Nat) (hc : c ≤ 9223372036854775807) : PairsR w (.slice a 0 c) [] :=
  ⟨a, c, rfl, Nat.zero_le _, hc, by simp, fun i p hi => by simp at hi⟩

theorem PairsR.at {w : World} {b o n c : Nat} {l : List (Int × Int)} (h : PairsR w (.slice (some ⟨b, o, none⟩) n c) l) {i : Nat} {p : Int × Int} (hi : l[i]? = some p) :
    b < w.heap.size ∧ w.cell? ⟨b, o + i * 2, none⟩ = some (.int .i64 p.1) ∧ w.cell? ⟨b, o + i * 2 + 1, none⟩ = some (.int .i64 p.2) := by
  obtain ⟨a, c', e, _, _, _, g⟩ := h
  injection e with e1 e2 e3
  subst e1
  obtain ⟨b', o', e, hb, c0, c1⟩ := g i p hi
  injection e with e
  injection e with e1 e2
  subst e1 e2
  exact ⟨hb, c0, c1⟩

/-- A slice that holds something has an address. -/
theorem PairsR.addr {w : World} {a : Option Addr} {n c : Nat} {l : List (Int × Int)} (h : PairsR w (.slice a n c) l) (hl : 0 < l.length) : ∃ b o, a = some ⟨b, o, none⟩ := by
  obtain ⟨p, hp⟩ := getElem?_ex hl
  obtain ⟨_, _, e, _, _, _, g⟩ := h
  injection e with e1 e2 e3
  subst e1
  obtain ⟨b, o, e, _⟩ := g 0 p hp
  exact ⟨b, o, e⟩

/-- A part of a slice of pairs. -/
theorem PairsR.cutAt {w : World} {b o n c : Nat} {l : List (Int × Int)} (h : PairsR w (.slice (some ⟨b, o, none⟩) n c) l) {i m : Nat} (hi : i + m ≤ l.length) {o' : Nat} (ho : o' = o + i * 2) (c' : Nat) (hc : m ≤ c') (hc2 : c' ≤ 9223372036854775807) :
    PairsR w (.slice (some ⟨b, o', none⟩) m c') ((l.drop i).take m) := by
  subst ho
  have hl : ((l.drop i).take m).length = m := by rw [List.length_take, List.length_drop]; omega
  have h3 : l.length ≤ 140737488351232 := by obtain ⟨_, _, _, _, _, h3, _⟩ := h; exact h3
  refine ⟨_, c', by rw [hl], by omega, hc2, by omega, fun j p hj => ?_⟩
  have hjm : j < m := by rw [← hl]; exact (List.getElem?_eq_some_iff.1 hj).1
  rw [List.getElem?_take, if_pos hjm, List.getElem?_drop] at hj
  obtain ⟨g1, g2, g3⟩ := h.at hj
  rw [show (i + j) * 2 = i * 2 + j * 2 by omega, ← Nat.add_assoc] at g2 g3
  exact ⟨b, o + i * 2, rfl, g1, g2, g3⟩

def pairF (p : Int × Int) : List Value := [.int .i64 p.1, .int .i64 p.2]

theorem pairF_at : ∀ (ps : List (Int × Int)) (i : Nat) (p : Int × Int), ps[i]? = some p → (ps.flatMap pairF)[i * 2]? = some (.int .i64 p.1) ∧ (ps.flatMap pairF)[i * 2 + 1]? = some (.int .i64 p.2)
  | [], i, p, h => by simp at h
  | q :: ps, 0, p, h => by
    obtain rfl : q = p := by simpa using h
    exact ⟨rfl, rfl⟩
  | q :: ps, i + 1, p, h => by
    have := pairF_at ps i p (by simpa using h)
    rw [List.flatMap_cons]
    have e1 : (i + 1) * 2 = i * 2 + 1 + 1 := by omega
    rw [e1]
    exact this

theorem pairF_len (ps : List (Int × Int)) : (ps.flatMap pairF).length = ps.length * 2 := by
  induction ps with
  | nil => rfl
  | cons p ps ih => rw [List.flatMap_cons, List.length_append, ih, List.length_cons]; simp [pairF]; omega

theorem pairF_one {ps : List (Int × Int)} {u : Value} (h : u ∈ ps.flatMap pairF) : ∃ z : Int, u = .int .i64 z := by
  obtain ⟨p, _, hp⟩ := List.mem_flatMap.1 h
  simp only [pairF, List.mem_cons, List.not_mem_nil, or_false] at hp
  rcases hp with rfl | rfl
  · exact ⟨_, rfl⟩
  · exact ⟨_, rfl⟩

theorem own_pairs {w : World} {base e n : Nat} {v : Value} {ps : List (Int × Int)} (h : w.ownsRow base e 2 v n (ps.flatMap pairF)) (hn : n = ps.length) (hb : ps.length ≤ 140737488351232) : PairsR w v ps := by
  subst hn
  rcases h.2 with ⟨rfl, h0⟩ | ⟨g, cap, cur, rfl, _, hg, h1, h2, h3, h4⟩
  · have : ps = [] := List.eq_nil_of_length_eq_zero h0
    subst this
    exact pairs_nil _ _ _ (by omega)
  · refine ⟨some ⟨g, 0, none⟩, cap, rfl, h1, by simpa [maxLen] using h2, hb, fun i p hi => ?_⟩
    have hlt : i < ps.length := (List.getElem?_eq_some_iff.1 hi).1
    obtain ⟨r0, r1⟩ := pairF_at ps i p hi
    have c0 := (h.cellAt (i * 2) (by omega)).trans r0
    have c1 := (h.cellAt (i * 2 + 1) (by omega)).trans r1
    exact ⟨g, 0, rfl, (Array.getElem?_eq_some_iff.1 hg).1, by rw [Nat.zero_add]; exact c0, by rw [Nat.zero_add]; exact c1⟩

/-- Append of a whole slice of pairs onto a row of the call's own. -/
theorem appPairs {P : Program} {ops : Array Oper} {rest : List Oper} {o : Oper} {a : Act} {Q : Exit → Act → World → Prop} (hgd : o.guard = none) (s x : Operand) (t : TypeId)
    (ho : o.op = .call { callee := .builtin .append, args := #[s, x], argTypes := #[t, t] })
    {e : TypeId} {z : Value} {bytes : Nat} (ht : P.underlying t = some (.slice e)) (hE : EI P e z 2 bytes)
    (base : Nat) {v : Value} {n : Nat} {xs : List Value} {W : World} {vx : Value} {l : List (Int × Int)} (hs : a.eval s = v) (hown : W.ownsRow base e 2 v n xs)
    (hx : a.eval x = vx) (hl : PairsR W vx l) (hbytes : (n + l.length) * bytes ≤ 140737488355328) (hbase : base ≤ W.heap.size)
    (h : ∀ v' w', w'.ownsRow base e 2 v' (n + l.length) (xs ++ l.flatMap pairF) → Below base W w' → W.grownBy w' v.ownBlock → wpList P ops Q rest (a.put o.dst v') w') :
    wpList P ops Q (o :: rest) a W := by
  obtain ⟨i, hi, hz, hsize, hby, hzs, hsz, hbp⟩ := hE
  have h63 : n + l.length ≤ 140737488355328 := Nat.le_trans (Nat.le_mul_of_pos_right _ hbp) hbytes
  obtain ⟨ad, c, rfl, g1, g2, g3, h4⟩ := hl
  rcases ad with _ | ad
  · have hl0 : l = [] := by
      cases l with
      | nil => rfl
      | cons x l => obtain ⟨b, o, e, _⟩ := h4 0 x rfl; cases e
    subst hl0
    have hrun : (Builtin.append_ #[t, t] o.type #[v, .slice none 0 c]).run P W = .ok v W := by
      rcases hown.2 with ⟨rfl, rfl⟩ | ⟨g, cap, cur, rfl, _, _, hnc, _⟩
      · simp [Builtin.append_, run_underlying ht, sizeOf, typeInfo, hi, Builtin.lenOf, Builtin.firstCells]
      · simp [Builtin.append_, run_underlying ht, sizeOf, typeInfo, hi, Builtin.lenOf, Builtin.firstCells, hnc, storeCells]
    refine wpList_plain hgd fun K hK => ?_
    unfold Oper.wp execOp
    simp only [ho, resolve, invoke, builtin, Sem.run_bind, Sem.run_pure, Result.andThen_ok, List.map_toArray, List.map_cons, List.map_nil, hs, hx, List.length_nil, hrun]
    exact hK _ _ (h v W (by simpa using hown) (Below.refl _ _) ⟨rfl, rfl, rfl, Nat.le_refl _, fun _ _ _ => rfl⟩)
  · refine wpList_append_own _ hgd s x t ho base e i z 2 bytes ht hi hz hsize hby hzs hsz v n xs hs hown ad l.length c (l.flatMap pairF) hx (pairF_len l) ?_ (by intro u hu; obtain ⟨y, rfl⟩ := pairF_one hu; rfl) (by unfold maxLen; omega) hbytes hbase ?_
    · intro j u hu
      have hjl : j < l.length * 2 := by rw [← pairF_len]; exact (List.getElem?_eq_some_iff.1 hu).1
      obtain ⟨p, hp⟩ := getElem?_ex (l := l) (k := j / 2) (by omega)
      obtain ⟨r0, r1⟩ := pairF_at l (j / 2) p hp
      obtain ⟨b, o, e, _, c0, c1⟩ := h4 (j / 2) p hp
      injection e with e
      subst e
      have hadd : (⟨b, o, none⟩ : Addr).add j = ⟨b, o + j, none⟩ := by unfold Addr.add; split <;> simp_all
      rw [hadd]
      rcases Nat.mod_two_eq_zero_or_one j with hm | hm
      · have ej : j / 2 * 2 = j := by omega
        rw [ej] at r0 c0
        rw [c0, ← hu, r0]
      · have ej : j / 2 * 2 + 1 = j := by omega
        rw [ej] at r1
        rw [Nat.add_assoc, ej] at c1
        rw [c1, ← hu, r1]
    · intro v' w' hown' hg _
      exact h v' w' hown' ((Below.refl _ _).grown hg hbase fun k hk => (hown.lt k hk).1) hg
end Go.Proofs.Ytjmjnkilgoelbaa

namespace Go.Proofs.Ytjmjnkilgoelbaa
open Go.RowKit

def digsF : Nat → Nat → List Int
  | 0, _ => []
  | f + 1, n => if n = 0 then [] else ((n % 65536 : Nat) : Int) :: digsF f (n / 65536)
def digs (n : Nat) : List Int := digsF n n

theorem digsF_eq : ∀ (f g n : Nat), n ≤ f → n ≤ g → digsF f n = digsF g n := by
  intro f
  induction f with
  | zero => intro g n h _; have : n = 0 := by omega
            subst this; cases g <;> simp [digsF]
  | succ f ih =>
    intro g n h h'
    cases g with
    | zero => have : n = 0 := by omega
              subst this; simp [digsF]
    | succ g =>
      simp only [digsF]
      split
      · rfl
      · rw [ih g (n / 65536) (by omega) (by omega)]

theorem digs_zero : digs 0 = [] := rfl
theorem digs_pos {n : Nat} (h : 0 < n) : digs n = ((n % 65536 : Nat) : Int) :: digs (n / 65536) := by
  obtain ⟨f, rfl⟩ : ∃ f, n = f + 1 := ⟨n - 1, by omega⟩
  show digsF (f + 1) (f + 1) = _
  simp only [digsF]
  rw [if_neg (by omega)]
  unfold digs
  rw [digsF_eq f ((f + 1) / 65536) _ (by omega) (Nat.le_refl _)]

/-- The number of some digits. -/
def bv : List Int → Nat
  | [] => 0
  | d :: l => d.toNat + 65536 * bv l

def Dig (l : List Int) : Prop := ∀ d ∈ l, 0 ≤ d ∧ d ≤ 65535

theorem digs_dig (n : Nat) : Dig (digs n) := by
  induction n using Nat.strongRecOn with
  | _ n ih =>
    rcases Nat.eq_zero_or_pos n with h | h
    · subst h; intro d hd; simp [digs_zero] at hd
    · rw [digs_pos h]
      intro d hd
      rcases List.mem_cons.1 hd with h1 | h1
      · subst h1; omega
      · exact ih _ (by omega) d h1

theorem bv_digs (n : Nat) : bv (digs n) = n := by
  induction n using Nat.strongRecOn with
  | _ n ih =>
    rcases Nat.eq_zero_or_pos n with h | h
    · subst h; rfl
    · rw [digs_pos h]
      simp only [bv, ih (n / 65536) (by omega)]
      omega

/-- Digits with nothing at the top. -/
def Canon : List Int → Prop
  | [] => True
  | [d] => 0 < d
  | _ :: l => Canon l

theorem canon_cons {d : Int} {l : List Int} (h : l ≠ []) (hc : Canon l) : Canon (d :: l) := by
  cases l with
  | nil => exact absurd rfl h
  | cons e l => exact hc

theorem canon_digs (n : Nat) : Canon (digs n) := by
  induction n using Nat.strongRecOn with
  | _ n ih =>
    rcases Nat.eq_zero_or_pos n with h | h
    · subst h; trivial
    · rw [digs_pos h]
      rcases Nat.eq_zero_or_pos (n / 65536) with h1 | h1
      · rw [h1, digs_zero]; show 0 < _; omega
      · exact canon_cons (by rw [digs_pos h1]; simp) (ih _ (by omega))

theorem canon_pos {l : List Int} (h : Canon l) (hd : Dig l) (hne : l ≠ []) : 0 < bv l := by
  induction l with
  | nil => exact absurd rfl hne
  | cons d l ih =>
    have hd0 := hd d (by simp)
    cases l with
    | nil => simp only [bv]; have : 0 < d := h; omega
    | cons e l =>
      have := ih h (fun x hx => hd x (by simp [hx])) (by simp)
      simp only [bv] at this ⊢; omega

theorem digs_of_canon {l : List Int} (h : Canon l) (hd : Dig l) : l = digs (bv l) := by
  induction l with
  | nil => rfl
  | cons d l ih =>
    have hd0 := hd d (by simp)
    have hdl : Dig l := fun x hx => hd x (by simp [hx])
    have hp := canon_pos h hd (by simp)
    have hcl : Canon l := by cases l with
      | nil => trivial
      | cons e l => exact h
    rw [digs_pos hp]
    simp only [bv]
    have e1 : (d.toNat + 65536 * bv l) % 65536 = d.toNat := by omega
    have e2 : (d.toNat + 65536 * bv l) / 65536 = bv l := by omega
    rw [e1, e2, ← ih hcl hdl]
    congr 1
    omega

def trimL (l : List Int) : List Int := (l.reverse.dropWhile (· == 0)).reverse

theorem trimL_snoc_zero (l : List Int) : trimL (l ++ [0]) = trimL l := by simp [trimL]
theorem trimL_snoc_pos (l : List Int) {d : Int} (h : d ≠ 0) : trimL (l ++ [d]) = l ++ [d] := by simp [trimL, h]

theorem bv_append (l m : List Int) : bv (l ++ m) = bv l + 65536 ^ l.length * bv m := by
  induction l with
  | nil => simp [bv]
  | cons d l ih => simp only [List.cons_append, bv, ih, List.length_cons, Nat.pow_succ]; rw [Nat.mul_add, ← Nat.mul_assoc, Nat.mul_comm 65536 (65536 ^ l.length), Nat.add_assoc]

theorem snoc_cases (l : List Int) : l = [] ∨ ∃ m d, l = m ++ [d] := by
  rcases List.eq_nil_or_concat l with h | ⟨m, d, h⟩
  · exact .inl h
  · exact .inr ⟨m, d, by simpa using h⟩

theorem canon_snoc (l : List Int) {d : Int} (h : 0 < d) : Canon (l ++ [d]) := by
  induction l with
  | nil => exact h
  | cons e l ih => exact canon_cons (by simp) ih

theorem trimL_spec : ∀ (n : Nat) (l : List Int), l.length = n → Dig l → Canon (trimL l) ∧ Dig (trimL l) ∧ bv (trimL l) = bv l := by
  intro n
  induction n with
  | zero => intro l h _; have : l = [] := List.eq_nil_of_length_eq_zero h
            subst this; exact ⟨trivial, fun d hd => by simp [trimL] at hd, rfl⟩
  | succ n ih =>
    intro l h hd
    rcases snoc_cases l with rfl | ⟨m, d, rfl⟩
    · simp at h
    · by_cases h0 : d = 0
      · subst h0
        rw [trimL_snoc_zero]
        obtain ⟨h1, h2, h3⟩ := ih m (by simpa using h) (fun x hx => hd x (by simp [hx]))
        exact ⟨h1, h2, by rw [h3, bv_append]; simp [bv]⟩
      · rw [trimL_snoc_pos m h0]
        have := hd d (by simp)
        exact ⟨canon_snoc m (by omega), hd, rfl⟩

theorem trimL_digs {l : List Int} (hd : Dig l) : trimL l = digs (bv l) := by
  obtain ⟨h1, h2, h3⟩ := trimL_spec l.length l rfl hd
  rw [digs_of_canon h1 h2, h3]

/-- Two rows of digits together, with what is carried. -/
def addL : List Int → List Int → Int → List Int
  | [], [], c => if 0 < c then [c % 65536] else []
  | a :: xs, [], c => (a + c) % 65536 :: addL xs [] ((a + c) / 65536)
  | [], b :: ys, c => (b + c) % 65536 :: addL [] ys ((b + c) / 65536)
  | a :: xs, b :: ys, c => (a + b + c) % 65536 :: addL xs ys ((a + b + c) / 65536)

theorem addL_dig (xs ys : List Int) (c : Int) (ha : Dig xs) (hb : Dig ys) (hc : 0 ≤ c ∧ c ≤ 1) : Dig (addL xs ys c) ∧ bv (addL xs ys c) = bv xs + bv ys + c.toNat := by
  fun_induction addL xs ys c with
  | case1 c h => exact ⟨fun d hd => by simp at hd; subst hd; omega, by simp [bv]; omega⟩
  | case2 c h => exact ⟨fun d hd => by simp at hd, by simp [bv]; omega⟩
  | case3 a xs c ih =>
    have h0 := ha a (by simp)
    obtain ⟨h1, h2⟩ := ih (fun d hd => ha d (by simp [hd])) hb ⟨by omega, by omega⟩
    refine ⟨fun d hd => ?_, by simp only [bv, h2]; omega⟩
    rcases List.mem_cons.1 hd with h | h
    · subst h; omega
    · exact h1 d h
  | case4 b ys c ih =>
    have h0 := hb b (by simp)
    obtain ⟨h1, h2⟩ := ih ha (fun d hd => hb d (by simp [hd])) ⟨by omega, by omega⟩
    refine ⟨fun d hd => ?_, by simp only [bv, h2]; omega⟩
    rcases List.mem_cons.1 hd with h | h
    · subst h; omega
    · exact h1 d h
  | case5 a xs b ys c ih =>
    have h0 := ha a (by simp)
    have h0' := hb b (by simp)
    obtain ⟨h1, h2⟩ := ih (fun d hd => ha d (by simp [hd])) (fun d hd => hb d (by simp [hd])) ⟨by omega, by omega⟩
    refine ⟨fun d hd => ?_, by simp only [bv, h2]; omega⟩
    rcases List.mem_cons.1 hd with h | h
    · subst h; omega
    · exact h1 d h

theorem addL_digs (m n : Nat) : trimL (addL (digs m) (digs n) 0) = digs (m + n) := by
  obtain ⟨h1, h2⟩ := addL_dig (digs m) (digs n) 0 (digs_dig m) (digs_dig n) (by omega)
  rw [trimL_digs h1, h2, bv_digs, bv_digs]; rfl
end Go.Proofs.Ytjmjnkilgoelbaa

namespace Go.Proofs.Ytjmjnkilgoelbaa
open Go.RowKit

set_option maxHeartbeats 400000 in
theorem same_any (va vb : Value) (la lb : List Int) (w : World) (ha : Ints .i64 w va la) (hb : Ints .i64 w vb lb) :
    Calls Try.prog 72 #[va, vb] w fun e w' => e = .returned (.bool (decide (la = lb))) ∧ ∃ n, w' = w.drewN n := by
  obtain ⟨a, c, rfl, _, _, h3, ha⟩ := ha
  obtain ⟨b, d, rfl, _, _, h3', hb⟩ := hb
  have HA := Lib.hid ha; clear ha
  have HB := Lib.hid hb; clear hb
  obtain ⟨m, hm⟩ : ∃ m, lb.length = m := ⟨_, rfl⟩
  rw [hm] at h3' ⊢
  have HM := Lib.hid hm; clear hm
  by_cases hl : la.length = m
  · obtain rfl := hl
    have hb : ((la.length : Int) != la.length) = false := by simp
    go_enter Try.func72, Try.ntmps72
    go_wp2
    go_loopw [5] (fun i wr => ∃ k : Nat, k ≤ la.length ∧ i = .int .i64 k ∧ (la.take k = lb.take k) ∧ ∃ n, wr = w.drewN n) (fun i _ => la.length - (intOf i).toNat)
    case atStart => exact ⟨0, Nat.zero_le _, rfl, rfl, 0, rfl⟩
    case round =>
      obtain ⟨k, hk, rfl, hpre, n, rfl⟩ := hrel
      have HP := Lib.hid hpre; clear hpre
      by_cases hlt : k < la.length
      · obtain ⟨x, hx⟩ := getElem?_ex hlt
        obtain ⟨y, hy⟩ := getElem?_ex (l := lb) (k := k) (by rw [HM.out]; exact hlt)
        obtain ⟨b1, o1, rfl, hb1, hc1⟩ := HA.out k x hx
        obtain ⟨b2, o2, rfl, hb2, hc2⟩ := HB.out k y hy
        have HX := Lib.hid hx; clear hx
        have HY := Lib.hid hy; clear hy
        go_wp2
        go_quiet (fail)
        go_wp2
        · go_ret
          have hne : (x != y) = true := by assumption
          refine ⟨ret_bool ?_, _, World.drewN_drewN _ _ _⟩
          symm; rw [decide_eq_false_iff_not]; rintro rfl
          have := HX.out.symm.trans HY.out
          simp_all
        · have hne : (x != y) = false := by assumption
          have : x = y := by simpa using hne
          subst this
          go_roundw
          case rel => exact ⟨k + 1, by omega, by go_num, take_step HX.out HY.out HP.out, _, rfl⟩
          case measure => simp [intOf] <;> omega
      · go_wp2
        go_ret
        refine ⟨ret_bool ?_, _, rfl⟩
        have hp := HP.out
        rw [List.take_of_length_le (by omega), List.take_of_length_le (by rw [HM.out]; omega)] at hp
        simp [hp]
  · have hb : ((la.length : Int) != m) = true := by simp; omega
    go_enter Try.func72, Try.ntmps72
    go_wp2
    go_ret
    refine ⟨ret_bool ?_, 0, rfl⟩
    symm; rw [decide_eq_false_iff_not]; rintro rfl
    exact hl HM.out
end Go.Proofs.Ytjmjnkilgoelbaa

namespace Go.Proofs.Ytjmjnkilgoelbaa
open Go.RowKit
def BigR (w : World) (e : Ending) (w' : World) (n : Nat) : Prop := ∃ v, e = .returned v ∧ Ints .i64 w' v (digs n) ∧ Fresh w.heap.size v ∧ Below w.heap.size w w'

theorem digs_len (n : Nat) : ∀ k, n < 65536 ^ k → (digs n).length ≤ k := by
  induction n using Nat.strongRecOn with
  | _ n ih =>
    intro k hk
    rcases Nat.eq_zero_or_pos n with h | h
    · subst h; simp [digs_zero]
    · rw [digs_pos h]
      cases k with
      | zero => simp at hk; omega
      | succ k =>
        have := ih (n / 65536) (by omega) k (by rw [Nat.pow_succ] at hk; omega)
        simp; omega

set_option maxRecDepth 100000 in
set_option maxHeartbeats 400000 in
theorem of_any (n : Nat) (w : World) (hn : n < 18446744073709551616) :
    Calls Try.prog 206 #[.int .u64 n] w fun e w' => BigR w e w' n := by
  have HN := Lib.hid hn; clear hn
  go_enter Try.func206, Try.ntmps206
  go_wp2
  go_loopw [0, 3] (fun m v wr => ∃ (k : Nat) (l : List Int), m = .int .u64 k ∧ k ≤ n ∧ wr.ownsRow w.heap.size 3 1 v l.length (l.map (.int .i64)) ∧ digs n = l ++ digs k ∧ Below w.heap.size w wr) (fun m _ _ => (intOf m).toNat)
  case atStart => exact ⟨n, [], rfl, Nat.le_refl _, World.ownsRow_nil _ _ _ _, rfl, Below.refl _ _⟩
  case round =>
    obtain ⟨k, l, rfl, hk, hown, hl, hb⟩ := hrel
    have HL := Lib.hid hl; clear hl
    have hlen : l.length ≤ 4 := by
      have := digs_len n 4 (by simpa using HN.out)
      rw [HL.out, List.length_append] at this; omega
    have hk64 : k < 18446744073709551616 := Nat.lt_of_le_of_lt hk HN.out
    by_cases h0 : 0 < k
    · go_wp2_with (at_builtin; go_must (refine app1 rfl _ _ 237 rfl Try.underlying237 eiInt w.heap.size (by rfl) hown (by rfl) rfl (by simp [Value.oneCell']) (by omega) hb.size ?_))
      intro v' w' hown' hb' _
      go_wp2
      go_roundw
      case rel => 
        refine ⟨k / 65536, l ++ [((k % 65536 : Nat) : Int)], by go_num, by omega, ?_, ?_, hb.trans hb'⟩
        · simpa using hown'
        · rw [HL.out, digs_pos h0]; simp
      case measure => simp [intOf] <;> omega
    · go_wp2
      go_ret
      obtain rfl : k = 0 := by omega
      obtain ⟨h1, h2⟩ := Ints.own hown (by omega)
      exact ⟨_, rfl, by rw [HL.out, digs_zero, List.append_nil]; exact h2, Fresh.own hown, hb⟩

set_option maxHeartbeats 400000 in
theorem digit_any (v : Value) (l : List Int) (i : Nat) (w : World) (h : Ints .i64 w v l) :
    Calls Try.prog 219 #[v, .int .i64 i] w fun e w' => e = .returned (.int .i64 (l.getD i 0)) ∧ w = w' := by
  obtain ⟨a, c, rfl, _, _, h3, h⟩ := h
  have H := Lib.hid h; clear h
  by_cases hi : i < l.length
  · obtain ⟨x, hx⟩ := getElem?_ex hi
    obtain ⟨b1, o1, rfl, hb1, hc1⟩ := H.out i x hx
    have HX := Lib.hid hx; clear hx
    go_enter Try.func219, Try.ntmps219
    go_wp2
    go_ret
    refine ⟨ret_int ?_, rfl⟩
    simp [HX.out]
  · have : l.length ≤ i := by omega
    go_enter Try.func219, Try.ntmps219
    go_wp2
    go_ret
    refine ⟨ret_int ?_, rfl⟩
    simp [List.getElem?_eq_none this]

set_option maxHeartbeats 400000 in
theorem trim_any (v : Value) (l : List Int) (w : World) (h : Ints .i64 w v l) :
    Calls Try.prog 220 #[v] w fun e w' => ∃ v', e = .returned v' ∧ Ints .i64 w v' (trimL l) ∧ (∀ B, Fresh B v → Fresh B v') ∧ w = w' := by
  obtain ⟨a, c, rfl, h1, h2, h3, h⟩ := h
  have H := Lib.hid h; clear h
  go_enter Try.func220, Try.ntmps220
  go_wp2
  go_loop [3] (fun i => ∃ k : Nat, k ≤ l.length ∧ i = .int .i64 k ∧ trimL l = trimL (l.take k)) (fun i => (intOf i).toNat)
  case atStart => exact ⟨l.length, Nat.le_refl _, rfl, by simp⟩
  case round =>
    obtain ⟨k, hk, rfl, ht⟩ := hrel
    have HT := Lib.hid ht; clear ht
    by_cases h0 : 0 < k
    · obtain ⟨j, hj⟩ : ∃ j, k = j + 1 := ⟨k - 1, by omega⟩
      subst hj
      have hjl : j < l.length := by omega
      obtain ⟨x, hx⟩ := getElem?_ex hjl
      obtain ⟨b1, o1, rfl, hb1, hc1⟩ := H.out j x hx
      have HX := Lib.hid hx; clear hx
      have e1 : ((j + 1 : Nat) : Int) - 1 = j := by omega
      have E1 := Lib.hid e1; clear e1
      by_cases hx0 : x = 0
      · have hxb : (x == 0) = true := by simp [hx0]
        have HX0 := Lib.hid hx0; clear hx0
        go_wp2
        go_round
        case rel => exact ⟨j, by omega, rfl, by rw [HT.out, take_snoc' HX.out, HX0.out, trimL_snoc_zero]⟩
        case measure => simp [intOf] <;> omega
      · have hxb : (x == 0) = false := by simp [hx0]
        go_wp2
        go_ret
        refine ⟨_, rfl, ?_, fun B hB => hB.cut (by omega), rfl⟩
        have e : trimL l = l.take (j + 1) := by rw [HT.out, take_snoc' HX.out, trimL_snoc_pos _ hx0]
        rw [e]
        exact (Ints.take (l := l) (k := j + 1) ⟨_, _, rfl, h1, h2, h3, H.out⟩ (by omega)).2
    · obtain rfl : k = 0 := by omega
      go_wp2
      go_ret
      refine ⟨_, rfl, ?_, fun B hB => hB.cut (by omega), rfl⟩
      have e : trimL l = l.take 0 := by rw [HT.out]; simp [trimL]
      rw [e]
      exact (Ints.take (l := l) (k := 0) ⟨_, _, rfl, h1, h2, h3, H.out⟩ (by omega)).2

theorem drop_getD {l : List Int} {k : Nat} (h : k < l.length) : l.drop k = l.getD k 0 :: l.drop (k + 1) := by
  rw [List.drop_eq_getElem_cons h]; simp [List.getElem?_eq_getElem h]

theorem addL_step {la lb : List Int} {k : Nat} {c : Int} (hc : 0 ≤ c ∧ c ≤ 1) (h : k < la.length ∨ k < lb.length ∨ 0 < c) :
    addL (la.drop k) (lb.drop k) c = (la.getD k 0 + lb.getD k 0 + c) % 65536 :: addL (la.drop (k + 1)) (lb.drop (k + 1)) ((la.getD k 0 + lb.getD k 0 + c) / 65536) := by
  by_cases h1 : k < la.length
  · rw [drop_getD h1]
    by_cases h2 : k < lb.length
    · rw [drop_getD h2]; simp only [addL]
    · rw [List.drop_of_length_le (l := lb) (i := k) (by omega), List.drop_of_length_le (l := lb) (i := k + 1) (by omega)]
      have : lb.getD k 0 = 0 := by simp [List.getElem?_eq_none (Nat.le_of_not_lt h2)]
      rw [this]; simp only [addL, Int.add_zero]
  · have e1 : la.getD k 0 = 0 := by simp [List.getElem?_eq_none (Nat.le_of_not_lt h1)]
    rw [List.drop_of_length_le (l := la) (i := k) (by omega), List.drop_of_length_le (l := la) (i := k + 1) (by omega), e1]
    by_cases h2 : k < lb.length
    · rw [drop_getD h2]; simp only [addL, Int.zero_add]
    · have e2 : lb.getD k 0 = 0 := by simp [List.getElem?_eq_none (Nat.le_of_not_lt h2)]
      rw [List.drop_of_length_le (l := lb) (i := k) (by omega), List.drop_of_length_le (l := lb) (i := k + 1) (by omega), e2]
      have hc1 : c = 1 := by omega
      subst hc1; simp [addL]

theorem addL_end {la lb : List Int} {k : Nat} {c : Int} (h1 : ¬ k < la.length) (h2 : ¬ k < lb.length) (h3 : ¬ 0 < c) : addL (la.drop k) (lb.drop k) c = [] := by
  rw [List.drop_of_length_le (l := la) (i := k) (by omega), List.drop_of_length_le (l := lb) (i := k) (by omega)]
  simp [addL, h3]

theorem dig_getD {l : List Int} (h : Dig l) (k : Nat) : 0 ≤ l.getD k 0 ∧ l.getD k 0 ≤ 65535 := by
  by_cases hk : k < l.length
  · have := h _ (List.getElem_mem hk)
    simpa [List.getElem?_eq_getElem hk] using this
  · simp [List.getElem?_eq_none (Nat.le_of_not_lt hk)]

theorem addL_len (xs ys : List Int) (c : Int) : (addL xs ys c).length ≤ xs.length + ys.length + 1 := by
  fun_induction addL xs ys c <;> simp_all <;> omega

set_option maxRecDepth 100000 in
set_option maxHeartbeats 800000 in
theorem plusL_any (va vb : Value) (la lb : List Int) (w : World) (ha : Ints .i64 w va la) (hb : Ints .i64 w vb lb) (da : Dig la) (db : Dig lb) (hla : la.length + lb.length ≤ 1000000) :
    Calls Try.prog 208 #[va, vb] w fun e w' => ∃ v, e = .returned v ∧ Ints .i64 w' v (trimL (addL la lb 0)) ∧ Fresh w.heap.size v ∧ Below w.heap.size w w' := by
  have ha0 := Lib.hid ha
  have hb0 := Lib.hid hb
  obtain ⟨aa, ca, rfl, _, _, h3, _⟩ := ha
  obtain ⟨ab, cb, rfl, _, _, h3', _⟩ := hb
  have hlen := addL_len la lb 0
  go_enter Try.func208, Try.ntmps208
  go_wp2
  go_loopw [5, 6, 7] (fun v c i wr => ∃ (k : Nat) (l : List Int) (cc : Int), i = .int .i64 k ∧ c = .int .i64 cc ∧ 0 ≤ cc ∧ cc ≤ 1 ∧ l.length = k ∧ wr.ownsRow w.heap.size 3 1 v l.length (l.map (.int .i64)) ∧ addL la lb 0 = l ++ addL (la.drop k) (lb.drop k) cc ∧ Below w.heap.size w wr) (fun _ _ i _ => (addL la lb 0).length - (intOf i).toNat)
  case atStart => exact ⟨0, [], 0, rfl, rfl, by omega, by omega, rfl, World.ownsRow_nil _ _ _ _, rfl, Below.refl _ _⟩
  case round =>
    obtain ⟨k, l, cc, rfl, rfl, hc0, hc1, hlk, hown, hl, hbl⟩ := hrel
    have hkk : k ≤ la.length + lb.length + 1 := by
      have := congrArg List.length hl; simp at this; omega
    have hll : l.length ≤ la.length + lb.length + 1 := by omega
    have HL := Lib.hid hl; clear hl
    have HK := Lib.hid hlk; clear hlk
    obtain ⟨x, hx⟩ : ∃ x, la.getD k 0 = x := ⟨_, rfl⟩
    obtain ⟨y, hy⟩ : ∃ y, lb.getD k 0 = y := ⟨_, rfl⟩
    have hxb := dig_getD da k
    have hyb := dig_getD db k
    rw [hx] at hxb; rw [hy] at hyb
    have HX := Lib.hid hx; clear hx
    have HY := Lib.hid hy; clear hy
    by_cases hg : k < la.length ∨ k < lb.length ∨ 0 < cc
    · have hst := addL_step ⟨hc0, hc1⟩ hg
      rw [HX.out, HY.out] at hst
      have hkt : k < (addL la lb 0).length := by rw [HL.out, List.length_append, hst, HK.out]; simp
      have HS := Lib.hid hst; clear hst
      have hparts : k < la.length ∨ (la.length ≤ k ∧ k < lb.length) ∨ (la.length ≤ k ∧ lb.length ≤ k ∧ 0 < cc) := by omega
      clear hg
      rcases hparts with h1 | ⟨h1, h2⟩ | ⟨h1, h2, h4⟩
      all_goals
        go_wp2_with fail
        refine (digit_any _ la k _ (ha0.out.below hbl)).mono ?_
        rw [HX.out]; rintro e w1 ⟨rfl, rfl⟩
        go_wp2_with fail
        refine (digit_any _ lb k _ (hb0.out.below hbl)).mono ?_
        rw [HY.out]; rintro e w1 ⟨rfl, rfl⟩
        go_wp2_with (at_builtin; go_must (refine app1 rfl _ _ 237 rfl Try.underlying237 eiInt w.heap.size (by rfl) hown (by rfl) rfl (by simp [Value.oneCell']) (by omega) hbl.size ?_))
        intro v' w' hown' hb' _
        go_wp2
        go_roundw
        case rel =>
          refine ⟨k + 1, l ++ [(x + y + cc) % 65536], (x + y + cc) / 65536, by go_num, rfl, by omega, by omega, by simp [HK.out], ?_, ?_, hbl.trans hb'⟩
          · simpa using hown'
          · rw [HL.out, HS.out]; simp
        case measure => simp [intOf] <;> omega
    · have hend := addL_end (la := la) (lb := lb) (k := k) (c := cc) (by omega) (by omega) (by omega)
      have he := HL.out
      rw [hend, List.append_nil] at he
      have HE := Lib.hid he; clear he hend
      obtain ⟨h1, h2, h4⟩ : la.length ≤ k ∧ lb.length ≤ k ∧ cc ≤ 0 := by omega
      clear hg
      obtain ⟨g1, g2⟩ := Ints.own hown (by have := HK.out; omega)
      go_wp2_with fail
      refine (trim_any _ l _ g2).mono ?_
      rintro e w1 ⟨v', rfl, hv', hfr, rfl⟩
      go_wp2
      go_ret
      exact ⟨v', rfl, by rw [HE.out]; exact hv', hfr _ (Fresh.own hown), hbl⟩

theorem plus_any (va vb : Value) (m n : Nat) (w : World) (ha : Ints .i64 w va (digs m)) (hb : Ints .i64 w vb (digs n)) (hm : (digs m).length + (digs n).length ≤ 1000000) :
    Calls Try.prog 208 #[va, vb] w fun e w' => BigR w e w' (m + n) :=
  (plusL_any va vb _ _ w ha hb (digs_dig m) (digs_dig n) hm).mono fun e w' ⟨v, h1, h2, h3⟩ => ⟨v, h1, by rw [← addL_digs]; exact h2, h3⟩
end Go.Proofs.Ytjmjnkilgoelbaa

namespace Go.Proofs.Ytjmjnkilgoelbaa
open Go.RowKit

def subL : List Int → List Int → Int → List Int
  | [], _, _ => []
  | a :: xs, ys, c => if a - ys.headD 0 - c < 0 then (a - ys.headD 0 - c + 65536) :: subL xs ys.tail 1 else (a - ys.headD 0 - c) :: subL xs ys.tail 0

theorem bv_head (l : List Int) : bv l = (l.headD 0).toNat + 65536 * bv l.tail := by cases l <;> rfl
theorem dig_head {l : List Int} (h : Dig l) : 0 ≤ l.headD 0 ∧ l.headD 0 ≤ 65535 := by
  cases l with
  | nil => simp
  | cons a l => exact h a (by simp)
theorem dig_tail {l : List Int} (h : Dig l) : Dig l.tail := by
  cases l with
  | nil => exact h
  | cons a l => exact fun d hd => h d (by simp at hd; simp [hd])

theorem subL_spec : ∀ (xs ys : List Int) (c : Int), Dig xs → Dig ys → 0 ≤ c → c ≤ 1 → bv ys + c.toNat ≤ bv xs → Dig (subL xs ys c) ∧ bv (subL xs ys c) + bv ys + c.toNat = bv xs := by
  intro xs
  induction xs with
  | nil =>
    intro ys c _ _ _ _ h
    simp only [bv] at h
    exact ⟨fun d hd => by simp [subL] at hd, by simp only [subL, bv]; omega⟩
  | cons a xs ih =>
    intro ys c hx hy h0 h1 h
    have ha := hx a (by simp)
    have hb := dig_head hy
    rw [bv_head ys] at h ⊢
    simp only [bv] at h ⊢
    simp only [subL]
    split
    · obtain ⟨g1, g2⟩ := ih ys.tail 1 (fun d hd => hx d (by simp [hd])) (dig_tail hy) (by omega) (by omega) (by omega)
      refine ⟨fun d hd => ?_, by simp only [bv]; omega⟩
      rcases List.mem_cons.1 hd with h | h
      · subst h; omega
      · exact g1 d h
    · obtain ⟨g1, g2⟩ := ih ys.tail 0 (fun d hd => hx d (by simp [hd])) (dig_tail hy) (by omega) (by omega) (by omega)
      refine ⟨fun d hd => ?_, by simp only [bv]; omega⟩
      rcases List.mem_cons.1 hd with h | h
      · subst h; omega
      · exact g1 d h

theorem subL_digs {m n : Nat} (h : n ≤ m) : trimL (subL (digs m) (digs n) 0) = digs (m - n) := by
  obtain ⟨h1, h2⟩ := subL_spec (digs m) (digs n) 0 (digs_dig m) (digs_dig n) (by omega) (by omega) (by rw [bv_digs, bv_digs]; simpa using h)
  rw [bv_digs, bv_digs] at h2
  rw [trimL_digs h1, show bv (subL (digs m) (digs n) 0) = m - n by simp at h2; omega]

/-- One digit times a row of digits, with what is carried. -/
def mulL (a : Int) : List Int → Int → List Int
  | [], c => [c]
  | b :: ys, c => (a * b + c) % 65536 :: mulL a ys ((a * b + c) / 65536)

theorem prod_small {a b c : Int} (ha : 0 ≤ a ∧ a ≤ 65535) (hb : 0 ≤ b ∧ b ≤ 65535) (hc : 0 ≤ c ∧ c ≤ 65535) : 0 ≤ a * b ∧ a * b + c ≤ 4294967295 - 65535 := by
  have h1 : 0 ≤ a * b := Int.mul_nonneg ha.1 hb.1
  have h2 : a * b ≤ 65535 * 65535 := Int.mul_le_mul ha.2 hb.2 hb.1 (by omega)
  omega

theorem mulL_spec (a : Int) (ha : 0 ≤ a ∧ a ≤ 65535) : ∀ (ys : List Int) (c : Int), Dig ys → 0 ≤ c ∧ c ≤ 65535 → Dig (mulL a ys c) ∧ bv (mulL a ys c) = a.toNat * bv ys + c.toNat := by
  intro ys
  induction ys with
  | nil => intro c _ hc; exact ⟨fun d hd => by simp [mulL] at hd; omega, by simp [mulL, bv]⟩
  | cons b ys ih =>
    intro c hy hc
    have hb := hy b (by simp)
    have hp := prod_small ha hb hc
    obtain ⟨g1, g2⟩ := ih ((a * b + c) / 65536) (fun d hd => hy d (by simp [hd])) ⟨by omega, by omega⟩
    refine ⟨fun d hd => ?_, ?_⟩
    · rcases List.mem_cons.1 hd with h | h
      · subst h; omega
      · exact g1 d h
    · simp only [bv, mulL, g2]
      have e : (a * b).toNat = a.toNat * b.toNat := Int.toNat_mul ha.1 hb.1
      have e2 : a.toNat * (65536 * bv ys) = 65536 * (a.toNat * bv ys) := Nat.mul_left_comm _ _ _
      rw [Nat.mul_add a.toNat b.toNat, e2, ← e, Nat.mul_add]
      omega

theorem mulL_len (a : Int) : ∀ (ys : List Int) (c : Int), (mulL a ys c).length = ys.length + 1 := by
  intro ys
  induction ys with
  | nil => intro c; rfl
  | cons b ys ih => intro c; simp [mulL, ih]

theorem bv_zeros (i : Nat) (l : List Int) : bv (List.replicate i 0 ++ l) = 65536 ^ i * bv l := by
  induction i with
  | zero => simp
  | succ i ih =>
    rw [List.replicate_succ, List.cons_append, bv, ih, Nat.pow_succ, Nat.mul_assoc, Nat.mul_left_comm]
    simp

theorem bv_lt {l : List Int} (h : Dig l) : bv l < 65536 ^ l.length := by
  induction l with
  | nil => simp [bv]
  | cons d l ih =>
    have h0 := h d (by simp)
    have := ih (fun x hx => h x (by simp [hx]))
    simp only [bv, List.length_cons, Nat.pow_succ]
    omega

theorem bv_snoc (l : List Int) (x : Int) : bv (l ++ [x]) = bv l + 65536 ^ l.length * x.toNat := by rw [bv_append]; simp [bv]

theorem bv_take_succ {l : List Int} {k : Nat} {x : Int} (h : l[k]? = some x) : bv (l.take (k + 1)) = bv (l.take k) + 65536 ^ k * x.toNat := by
  have hk : k < l.length := (List.getElem?_eq_some_iff.1 h).1
  rw [take_snoc' h, bv_snoc, List.length_take, Nat.min_eq_left (by omega)]

theorem dig_take {l : List Int} (h : Dig l) (k : Nat) : Dig (l.take k) := fun d hd => h d (List.mem_of_mem_take hd)

/-- The next row of a product. -/
theorem times_step {la : List Int} {k n : Nat} {x : Int} (hd : Dig la) (hx : la[k]? = some x) :
    digs (bv (la.take k) * n + bv (trimL (List.replicate k 0 ++ mulL x (digs n) 0))) = digs (bv (la.take (k + 1)) * n) ∧ Dig (List.replicate k 0 ++ mulL x (digs n) 0) := by
  have hx0 := hd x (List.mem_of_getElem? hx)
  obtain ⟨g1, g2⟩ := mulL_spec x hx0 (digs n) 0 (digs_dig n) (by omega)
  have gd : Dig (List.replicate k 0 ++ mulL x (digs n) 0) := fun d hd' => by
    rcases List.mem_append.1 hd' with h | h
    · have := (List.mem_replicate.1 h).2; omega
    · exact g1 d h
  refine ⟨?_, gd⟩
  rw [trimL_digs gd, bv_digs, bv_zeros, g2, bv_digs, bv_take_succ hx]
  congr 1
  rw [Nat.add_mul, Nat.mul_assoc]
  simp

theorem digs_lt_pow (n : Nat) : n < 65536 ^ (digs n).length := by
  have := bv_lt (digs_dig n)
  rwa [bv_digs] at this

theorem canon_ge : ∀ {l : List Int}, Canon l → Dig l → l ≠ [] → 65536 ^ (l.length - 1) ≤ bv l := by
  intro l
  induction l with
  | nil => intro _ _ h; exact absurd rfl h
  | cons d l ih =>
    intro hc hd _
    cases l with
    | nil => have : 0 < d := hc; simp [bv]; omega
    | cons e l =>
      have := ih hc (fun x hx => hd x (by simp [hx])) (by simp)
      simp only [List.length_cons, Nat.add_sub_cancel, bv, Nat.pow_succ] at this ⊢
      omega

theorem digs_len_lt {m n : Nat} (h : (digs m).length < (digs n).length) : m < n := by
  have h1 := digs_lt_pow m
  have h2 := canon_ge (canon_digs n) (digs_dig n) (by intro h0; rw [h0] at h; simp at h)
  rw [bv_digs] at h2
  have h3 : 65536 ^ (digs m).length ≤ 65536 ^ ((digs n).length - 1) := Nat.pow_le_pow_right (by omega) (by omega)
  omega

theorem bv_split {l : List Int} {k : Nat} {x : Int} (h : l[k]? = some x) : bv l = bv (l.take k) + 65536 ^ k * (x.toNat + 65536 * bv (l.drop (k + 1))) := by
  have hk : k < l.length := (List.getElem?_eq_some_iff.1 h).1
  have e : l = l.take k ++ (x :: l.drop (k + 1)) := by
    have hxx : l[k]'hk = x := (List.getElem?_eq_some_iff.1 h).2
    rw [← hxx, ← List.drop_eq_getElem_cons hk, List.take_append_drop]
  have := congrArg bv e
  rw [bv_append, List.length_take, Nat.min_eq_left (by omega)] at this
  simpa [bv] using this

theorem bv_lt_of {la lb : List Int} {k : Nat} {x y : Int} (da : Dig la) (db : Dig lb) (hx : la[k]? = some x) (hy : lb[k]? = some y) (hd : la.drop (k + 1) = lb.drop (k + 1)) (h : x < y) : bv la < bv lb := by
  rw [bv_split hx, bv_split hy, hd]
  have hk : k < la.length := (List.getElem?_eq_some_iff.1 hx).1
  have h1 := bv_lt (dig_take da k)
  rw [List.length_take, Nat.min_eq_left (by omega)] at h1
  have hx0 := da x (List.mem_of_getElem? hx)
  have hy0 := db y (List.mem_of_getElem? hy)
  have h2 : 65536 ^ k * (x.toNat + 65536 * bv (lb.drop (k + 1)) + 1) ≤ 65536 ^ k * (y.toNat + 65536 * bv (lb.drop (k + 1))) := Nat.mul_le_mul_left _ (by omega)
  rw [Nat.mul_add _ _ 1] at h2
  omega

def ordI (m n : Nat) : Int := if m < n then -1 else if n < m then 1 else 0

end Go.Proofs.Ytjmjnkilgoelbaa

namespace Go.Proofs.Ytjmjnkilgoelbaa
open Go.RowKit

theorem subL_len : ∀ (xs ys : List Int) (c : Int), (subL xs ys c).length = xs.length := by
  intro xs
  induction xs with
  | nil => intro ys c; rfl
  | cons a xs ih => intro ys c; simp only [subL]; split <;> simp [ih]

theorem subL_step {la lb : List Int} {k : Nat} {c x y : Int} (hx : la[k]? = some x) (hy : lb.getD k 0 = y) :
    subL (la.drop k) (lb.drop k) c = if x - y - c < 0 then (x - y - c + 65536) :: subL (la.drop (k + 1)) (lb.drop (k + 1)) 1 else (x - y - c) :: subL (la.drop (k + 1)) (lb.drop (k + 1)) 0 := by
  have hk : k < la.length := (List.getElem?_eq_some_iff.1 hx).1
  have e1 : (lb.drop k).headD 0 = y := by rw [← hy]; simp
  have e2 : (lb.drop k).tail = lb.drop (k + 1) := by simp
  have e3 : la.drop k = x :: la.drop (k + 1) := by rw [drop_getD hk, getD_of hx]
  rw [e3]
  simp only [subL, e1, e2]

set_option maxRecDepth 100000 in
set_option maxHeartbeats 800000 in
theorem minusL_any (va vb : Value) (la lb : List Int) (w : World) (ha : Ints .i64 w va la) (hb : Ints .i64 w vb lb) (da : Dig la) (db : Dig lb) (hla : la.length ≤ 1000000) :
    Calls Try.prog 209 #[va, vb] w fun e w' => ∃ v, e = .returned v ∧ Ints .i64 w' v (trimL (subL la lb 0)) ∧ Fresh w.heap.size v ∧ Below w.heap.size w w' := by
  have ha0 := Lib.hid ha
  have hb0 := Lib.hid hb
  obtain ⟨aa, ca, rfl, _, _, h3, hA⟩ := ha
  obtain ⟨ab, cb, rfl, _, _, h3', _⟩ := hb
  have HA := Lib.hid hA; clear hA
  go_enter Try.func209, Try.ntmps209
  go_wp2
  go_loopw [5, 6, 7] (fun v c i wr => ∃ (k : Nat) (l : List Int) (cc : Int), i = .int .i64 k ∧ c = .int .i64 cc ∧ 0 ≤ cc ∧ cc ≤ 1 ∧ l.length = k ∧ k ≤ la.length ∧ wr.ownsRow w.heap.size 3 1 v l.length (l.map (.int .i64)) ∧ subL la lb 0 = l ++ subL (la.drop k) (lb.drop k) cc ∧ Below w.heap.size w wr) (fun _ _ i _ => la.length - (intOf i).toNat)
  case atStart => exact ⟨0, [], 0, rfl, rfl, by omega, by omega, rfl, by omega, World.ownsRow_nil _ _ _ _, rfl, Below.refl _ _⟩
  case round =>
    obtain ⟨k, l, cc, rfl, rfl, hc0, hc1, hlk, hkl, hown, hl, hbl⟩ := hrel
    have hll : l.length ≤ la.length := by omega
    have HL := Lib.hid hl; clear hl
    have HK := Lib.hid hlk; clear hlk
    by_cases hg : k < la.length
    · obtain ⟨x, hx⟩ := getElem?_ex hg
      obtain ⟨y, hy⟩ : ∃ y, lb.getD k 0 = y := ⟨_, rfl⟩
      have hxb := da x (List.mem_of_getElem? hx)
      have hyb := dig_getD db k
      rw [hy] at hyb
      obtain ⟨b1, o1, rfl, hb1, hc1'⟩ := HA.out k x hx
      have hcell := (hbl.cell (p := ⟨b1, o1 + k, none⟩) hb1).trans hc1'
      clear hc1'
      have hst := subL_step (c := cc) hx hy
      have HS := Lib.hid hst; clear hst
      have hdig : ∀ n, Calls Try.prog 219 #[.slice ab lb.length cb, .int .i64 k] (wr.drewN n) fun e w' => e = .returned (.int .i64 y) ∧ wr.drewN n = w' := fun n => by
        have := digit_any _ lb k _ ((hb0.out.below hbl).drewN n)
        rw [hy] at this; exact this
      have HDG := Lib.hid hdig; clear hdig
      have HX := Lib.hid hx; clear hx
      have HY := Lib.hid hy; clear hy
      go_wp2
      go_quiet ((go_at_call 219; exact quiet_left (HDG.out _)))
      by_cases hneg : x - y - cc < 0
      all_goals
        go_wp2_with (at_builtin; go_must (refine app1 rfl _ _ 237 rfl Try.underlying237 eiInt w.heap.size (by rfl) hown (by rfl) rfl (by simp [Value.oneCell']) (by omega) hbl.size ?_))
        intro v' w' hown' hb' _
        go_wp2
        go_roundw
        case rel => first
          | exact ⟨k + 1, l ++ [x - y - cc + 65536], 1, by go_num, rfl, by omega, by omega, by simp [HK.out], by omega, by simpa using hown', by rw [HL.out, HS.out, if_pos (by omega)]; simp, (below_drewN hbl nq).trans hb'⟩
          | exact ⟨k + 1, l ++ [x - y - cc], 0, by go_num, rfl, by omega, by omega, by simp [HK.out], by omega, by simpa using hown', by rw [HL.out, HS.out, if_neg (by omega)]; simp, (below_drewN hbl nq).trans hb'⟩
        case measure => simp [intOf] <;> omega
    · obtain rfl : k = la.length := by omega
      have he := HL.out
      rw [List.drop_of_length_le (l := la) (Nat.le_refl _)] at he
      simp only [subL, List.append_nil] at he
      have HE := Lib.hid he; clear he
      obtain ⟨g1, g2⟩ := Ints.own hown (by omega)
      go_wp2_with fail
      refine (trim_any _ l _ g2).mono ?_
      rintro e w1 ⟨v', rfl, hv', hfr, rfl⟩
      go_wp2
      go_ret
      exact ⟨v', rfl, by rw [HE.out]; exact hv', hfr _ (Fresh.own hown), hbl⟩

theorem minus_any (va vb : Value) (m n : Nat) (w : World) (ha : Ints .i64 w va (digs m)) (hb : Ints .i64 w vb (digs n)) (hm : (digs m).length ≤ 1000000) (hle : n ≤ m) :
    Calls Try.prog 209 #[va, vb] w fun e w' => BigR w e w' (m - n) :=
  (minusL_any va vb _ _ w ha hb (digs_dig m) (digs_dig n) hm).mono fun e w' ⟨v, h1, h2, h3⟩ => ⟨v, h1, by rw [← subL_digs hle]; exact h2, h3⟩

set_option maxHeartbeats 800000 in
theorem order_any (va vb : Value) (m n : Nat) (w : World) (ha : Ints .i64 w va (digs m)) (hb : Ints .i64 w vb (digs n)) :
    Calls Try.prog 207 #[va, vb] w fun e w' => e = .returned (.int .i64 (ordI m n)) ∧ ∃ d, w' = w.drewN d := by
  obtain ⟨la, hla⟩ : ∃ la, digs m = la := ⟨_, rfl⟩
  obtain ⟨lb, hlb⟩ : ∃ lb, digs n = lb := ⟨_, rfl⟩
  rw [hla] at ha
  rw [hlb] at hb
  have MA : Hid (digs m = la) := hla
  have MB : Hid (digs n = lb) := hlb
  have da : Dig la := by rw [← hla]; exact digs_dig m
  have db : Dig lb := by rw [← hlb]; exact digs_dig n
  have va' : bv la = m := by rw [← hla]; exact bv_digs m
  have vb' : bv lb = n := by rw [← hlb]; exact bv_digs n
  have VA := Lib.hid va'; clear va'
  have VB := Lib.hid vb'; clear vb'
  have DA := Lib.hid da; clear da
  have DB := Lib.hid db; clear db
  have hlen1 : la.length < lb.length → m < n := fun h => digs_len_lt (by rw [hla, hlb]; exact h)
  have hlen2 : lb.length < la.length → n < m := fun h => digs_len_lt (by rw [hla, hlb]; exact h)
  have H1 := Lib.hid hlen1; clear hlen1
  have H2 := Lib.hid hlen2; clear hlen2
  clear hla hlb
  obtain ⟨aa, ca, rfl, _, _, h3, hA⟩ := ha
  obtain ⟨ab, cb, rfl, _, _, h3', hB⟩ := hb
  have HA := Lib.hid hA; clear hA
  have HB := Lib.hid hB; clear hB
  obtain ⟨q, hq⟩ : ∃ q, lb.length = q := ⟨_, rfl⟩
  rw [hq] at h3' ⊢
  have HQ := Lib.hid hq; clear hq
  by_cases hl : la.length = q
  · obtain rfl := hl
    have hb : ((la.length : Int) != la.length) = false := by simp
    go_enter Try.func207, Try.ntmps207
    go_wp2
    go_loopw [5] (fun i wr => ∃ k : Nat, k ≤ la.length ∧ i = .int .i64 ((k : Int) - 1) ∧ la.drop k = lb.drop k ∧ ∃ d, wr = w.drewN d) (fun i _ => (intOf i + 1).toNat)
    case atStart => exact ⟨la.length, Nat.le_refl _, rfl, by rw [List.drop_of_length_le (Nat.le_refl _), List.drop_of_length_le (by rw [HQ.out]; omega)], 0, rfl⟩
    case round =>
      obtain ⟨k, hk, rfl, hdr, d, rfl⟩ := hrel
      have HD := Lib.hid hdr; clear hdr
      by_cases h0 : 0 < k
      · obtain ⟨j, hj⟩ : ∃ j, k = j + 1 := ⟨k - 1, by omega⟩
        subst hj
        have e1 : ((j + 1 : Nat) : Int) - 1 = j := by omega
        rw [e1]
        clear e1
        have hjl : j < la.length := by omega
        obtain ⟨x, hx⟩ := getElem?_ex hjl
        obtain ⟨y, hy⟩ := getElem?_ex (l := lb) (k := j) (by rw [HQ.out]; exact hjl)
        obtain ⟨b1, o1, rfl, hb1, hc1⟩ := HA.out j x hx
        obtain ⟨b2, o2, rfl, hb2, hc2⟩ := HB.out j y hy
        have HX := Lib.hid hx; clear hx
        have HY := Lib.hid hy; clear hy
        go_wp2
        go_quiet (fail)
        by_cases hxy : x < y
        · go_wp2
          go_ret
          refine ⟨ret_int ?_, _, World.drewN_drewN _ _ _⟩
          have := bv_lt_of DA.out DB.out HX.out HY.out HD.out hxy
          rw [VA.out, VB.out] at this
          simp [ordI, this]
        · go_wp2
          go_quiet (fail)
          by_cases hyx : y < x
          · go_wp2
            go_ret
            refine ⟨ret_int ?_, _, World.drewN_drewN _ _ _⟩
            have := bv_lt_of DB.out DA.out HY.out HX.out HD.out.symm hyx
            rw [VA.out, VB.out] at this
            simp [ordI, this, Nat.lt_asymm this]
          · go_wp2
            go_roundw
            case rel =>
              refine ⟨j, by omega, rfl, ?_, _, rfl⟩
              have : x = y := by omega
              rw [drop_getD hjl, drop_getD (l := lb) (k := j) (by rw [HQ.out]; exact hjl), getD_of HX.out, getD_of HY.out, HD.out, this]
            case measure => simp [intOf] <;> omega
      · obtain rfl : k = 0 := by omega
        go_wp2
        go_ret
        refine ⟨ret_int ?_, _, rfl⟩
        have hp := HD.out
        simp only [List.drop_zero] at hp
        have : m = n := by rw [← VA.out, ← VB.out, hp]
        simp [ordI, this]
  · have hb : ((la.length : Int) != q) = true := by simp; omega
    by_cases hlt : la.length < q
    all_goals
      go_enter Try.func207, Try.ntmps207
      go_wp2
      go_ret
      refine ⟨ret_int ?_, 0, rfl⟩
    · have := H1.out (by rw [HQ.out]; exact hlt)
      simp [ordI, this]
    · have := H2.out (by rw [HQ.out]; omega)
      simp [ordI, this, Nat.lt_asymm this]
end Go.Proofs.Ytjmjnkilgoelbaa

namespace Go.Proofs.Ytjmjnkilgoelbaa
open Go.RowKit

def WholeR (w : World) (v : Value) (z : Int) : Prop :=
  ∃ neg vb, v = .agg #[.bool neg, vb] ∧ Ints .i64 w vb (digs z.natAbs) ∧ (neg = true → z ≤ 0) ∧ (neg = false → 0 ≤ z)

theorem WholeR.below {w w' : World} {v : Value} {z : Int} (h : WholeR w v z) (hb : Below w.heap.size w w') : WholeR w' v z := by
  obtain ⟨neg, vb, rfl, h1, h2, h3⟩ := h
  exact ⟨neg, vb, rfl, h1.below hb, h2, h3⟩

def Sm (n : Nat) : Prop := (digs n).length ≤ 400000
theorem Sm.of {n : Nat} {k : Nat} (h : n < 65536 ^ k) (hk : k ≤ 400000) : Sm n := Nat.le_trans (digs_len n k h) hk

def WFresh (B : Nat) (v : Value) : Prop := ∃ neg vb, v = .agg #[.bool neg, vb] ∧ Fresh B vb
def WholeP (w : World) (e : Ending) (w' : World) (z : Int) : Prop := ∃ v, e = .returned v ∧ WholeR w' v z ∧ WFresh w.heap.size v ∧ Below w.heap.size w w'

attribute [local go_sem ↓] Go.wp_at_zero Go.wp_at_succ

set_option maxRecDepth 100000 in
set_option maxHeartbeats 400000 in
theorem int_any (a : Int) (w : World) (h1 : -9223372036854775808 ≤ a) (h2 : a ≤ 9223372036854775807) :
    Calls Try.prog 187 #[.int .i64 a] w fun e w' => WholeP w e w' a := by
  have hb0 : Below w.heap.size w (w.alloc (.cells #[.bool false, .slice none 0 0] 239)) := (Below.refl _ _).alloc (Nat.le_refl _) _
  by_cases hn : a < 0
  · have hof := of_any a.natAbs (w.alloc (.cells #[.bool false, .slice none 0 0] 239)) (by omega)
    rw [show ((a.natAbs : Nat) : Int) = -(a + 1) + 1 by omega] at hof
    have HOF := Lib.hid hof; clear hof
    go_enter Try.func187, Try.ntmps187
    go_wp2_with (go_at_call 206; refine (HOF.out).mono ?_; rintro e w1 ⟨v, rfl, hv, hfv, hbw⟩; obtain ⟨av, cv, hve⟩ := hv.shape; subst hve; have c0_0 := hbw.cell (p := ⟨w.heap.size, 0, none⟩) (by first | omega | (simp <;> omega)); have f0_0 := hbw.frozen (p := ⟨w.heap.size, 0, none⟩) (by first | omega | (simp <;> omega)); have c0_1 := hbw.cell (p := ⟨w.heap.size, 1, none⟩) (by first | omega | (simp <;> omega)); have f0_1 := hbw.frozen (p := ⟨w.heap.size, 1, none⟩) (by first | omega | (simp <;> omega)); have hz : w.heap.size < w1.heap.size := by have := hbw.size; simp at this; omega)
    refine bodyPost_ret (v := .agg #[.bool true, .slice av (digs a.natAbs).length cv]) (by simp [results, Try.results187, go_sem, *]) rfl ⟨_, rfl, ⟨_, _, rfl, ?_, by omega, by simp⟩, ⟨_, _, rfl, hfv.mono (by simp)⟩, ?_⟩
    · exact (hv.setCell hfv (by simp) _).setCell hfv (by simp) _
    · exact ((hb0.trans (hbw.mono (by simp))).setCell (Nat.le_refl _) _).setCell (Nat.le_refl _) _
  · have hof := of_any a.natAbs (w.alloc (.cells #[.bool false, .slice none 0 0] 239)) (by omega)
    rw [show ((a.natAbs : Nat) : Int) = a by omega] at hof
    have HOF := Lib.hid hof; clear hof
    go_enter Try.func187, Try.ntmps187
    go_wp2_with (go_at_call 206; refine (HOF.out).mono ?_; rintro e w1 ⟨v, rfl, hv, hfv, hbw⟩; obtain ⟨av, cv, hve⟩ := hv.shape; subst hve; have c0_0 := hbw.cell (p := ⟨w.heap.size, 0, none⟩) (by first | omega | (simp <;> omega)); have f0_0 := hbw.frozen (p := ⟨w.heap.size, 0, none⟩) (by first | omega | (simp <;> omega)); have c0_1 := hbw.cell (p := ⟨w.heap.size, 1, none⟩) (by first | omega | (simp <;> omega)); have f0_1 := hbw.frozen (p := ⟨w.heap.size, 1, none⟩) (by first | omega | (simp <;> omega)); have hz : w.heap.size < w1.heap.size := by have := hbw.size; simp at this; omega)
    refine bodyPost_ret (v := .agg #[.bool false, .slice av (digs a.natAbs).length cv]) (by simp [results, Try.results187, go_sem, *]) rfl ⟨_, rfl, ⟨_, _, rfl, ?_, by simp, by omega⟩, ⟨_, _, rfl, hfv.mono (by simp)⟩, ?_⟩
    · exact (hv.setCell hfv (by simp) _).setCell hfv (by simp) _
    · exact ((hb0.trans (hbw.mono (by simp))).setCell (Nat.le_refl _) _).setCell (Nat.le_refl _) _

theorem shape_agg {w : World} {v : Value} {z : Int} (h : WholeR w v z) : ∃ neg a n c, v = .agg #[.bool neg, .slice a n c] := by
  obtain ⟨neg, vb, rfl, h1, _⟩ := h
  obtain ⟨a, c, rfl⟩ := h1.shape
  exact ⟨_, _, _, _, rfl⟩

set_option maxRecDepth 100000 in
set_option maxHeartbeats 1000000 in
theorem both_any (va vb : Value) (a b : Int) (w : World) (ha : WholeR w va a) (hb : WholeR w vb b) (sa : Sm a.natAbs) (sb : Sm b.natAbs) :
    Calls Try.prog 186 #[va, vb] w fun e w' => WholeP w e w' (a + b) := by
  obtain ⟨na, xa, rfl, ha1, ha2, ha3⟩ := ha
  obtain ⟨nb, xb, rfl, hb1, hb2, hb3⟩ := hb
  have HA2 := Lib.hid ha2; clear ha2
  have HB2 := Lib.hid hb2; clear hb2
  have HA3 := Lib.hid ha3; clear ha3
  have HB3 := Lib.hid hb3; clear hb3
  have hb0 : Below w.heap.size w (((w.alloc (.cells #[.bool na, xa] 239)).alloc (.cells #[.bool nb, xb] 239)).alloc (.cells #[.bool false, .slice none 0 0] 239)) :=
      (((Below.refl _ _).alloc (Nat.le_refl _) _).alloc (by simp) _).alloc (by simp; omega) _
  have HA1 := Lib.hid (ha1.below hb0)
  have HB1 := Lib.hid (hb1.below hb0)
  clear ha1 hb1
  have HS : Hid ((digs a.natAbs).length + (digs b.natAbs).length ≤ 1000000 ∧ (digs a.natAbs).length ≤ 1000000 ∧ (digs b.natAbs).length ≤ 1000000) := by unfold Sm at sa sb; exact ⟨by omega, by omega, by omega⟩
  clear sa sb
  have HBZ := Lib.hid hb0; clear hb0
  by_cases hs : na = nb
  · subst hs
    have hq : (na == na) = true := by simp
    go_enter Try.func186, Try.ntmps186
    go_wp2
    go_region_held3 (fun w' => w'.cell? ⟨w.heap.size, 0, none⟩ = some (.bool na) ∧ w'.cell? ⟨w.heap.size, 1, none⟩ = some (xa) ∧ w'.cell? ⟨w.heap.size + 1, 1, none⟩ = some (xb)) (first | (go_simp; done) | (go_keep; done) | (refine ⟨?_, ?_, ?_⟩ <;> first | (go_simp; done) | (go_keep; done))) (first | (go_at_call 208; refine (plus_any _ _ a.natAbs b.natAbs _ (HA1.out.drewN 1) (HB1.out.drewN 1) HS.out.1).mono ?_; rintro e w1 ⟨v, rfl, hv, hfv, hbw⟩; obtain ⟨av, cv, hve⟩ := hv.shape; subst hve; have c0_0 := hbw.cell (p := ⟨w.heap.size, 0, none⟩) (by first | omega | (simp <;> omega)); have f0_0 := hbw.frozen (p := ⟨w.heap.size, 0, none⟩) (by first | omega | (simp <;> omega)); have c0_1 := hbw.cell (p := ⟨w.heap.size, 1, none⟩) (by first | omega | (simp <;> omega)); have f0_1 := hbw.frozen (p := ⟨w.heap.size, 1, none⟩) (by first | omega | (simp <;> omega)); have c1_0 := hbw.cell (p := ⟨w.heap.size + 1, 0, none⟩) (by first | omega | (simp <;> omega)); have f1_0 := hbw.frozen (p := ⟨w.heap.size + 1, 0, none⟩) (by first | omega | (simp <;> omega)); have c1_1 := hbw.cell (p := ⟨w.heap.size + 1, 1, none⟩) (by first | omega | (simp <;> omega)); have f1_1 := hbw.frozen (p := ⟨w.heap.size + 1, 1, none⟩) (by first | omega | (simp <;> omega)); have c2_0 := hbw.cell (p := ⟨w.heap.size + 1 + 1, 0, none⟩) (by first | omega | (simp <;> omega)); have f2_0 := hbw.frozen (p := ⟨w.heap.size + 1 + 1, 0, none⟩) (by first | omega | (simp <;> omega)); have c2_1 := hbw.cell (p := ⟨w.heap.size + 1 + 1, 1, none⟩) (by first | omega | (simp <;> omega)); have f2_1 := hbw.frozen (p := ⟨w.heap.size + 1 + 1, 1, none⟩) (by first | omega | (simp <;> omega)); have hz : w.heap.size + 1 + 1 < w1.heap.size := by have := hbw.size; simp at this; omega))
    go_wp2
    have e0 : (a + b).natAbs = a.natAbs + b.natAbs := by
      have := HA2.out; have := HB2.out; have := HA3.out; have := HB3.out
      cases na <;> simp_all <;> omega
    refine bodyPost_ret (v := .agg #[.bool na, .slice av (digs (a.natAbs + b.natAbs)).length cv]) (by simp [results, Try.results186, go_sem, *]) rfl ⟨_, rfl, ⟨_, _, rfl, ?_, fun h => ?_, fun h => ?_⟩, ⟨_, _, rfl, hfv.mono (by simp; omega)⟩, ?_⟩
    · rw [e0]; exact (hv.setCell hfv (by simp) _).setCell hfv (by simp) _
    · have := HA2.out h; have := HB2.out h; omega
    · have := HA3.out h; have := HB3.out h; omega
    · exact ((HBZ.out.drew.trans (hbw.mono (by simp; omega))).setCell (by simp; omega) _).setCell (by simp; omega) _
  · have hq : (na == nb) = false := by simp [hs]
    have HNN := Lib.hid hs; clear hs
    have hor := order_any xa xb a.natAbs b.natAbs _ HA1.out HB1.out
    have HOR := Lib.hid hor; clear hor
    obtain ⟨r, hr⟩ : ∃ r, ordI a.natAbs b.natAbs = r := ⟨_, rfl⟩
    rw [hr] at HOR
    by_cases hge : 0 ≤ r
    · have hle : b.natAbs ≤ a.natAbs := by rw [← hr] at hge; unfold ordI at hge; split at hge <;> omega
      have HR := Lib.hid hr; clear hr
      go_enter Try.func186, Try.ntmps186
      go_wp2_with (go_at_call 207; refine HOR.out.mono ?_; rintro e w0 ⟨rfl, d, rfl⟩)
      go_region_held3 (fun w' => w'.cell? ⟨w.heap.size, 0, none⟩ = some (.bool na) ∧ w'.cell? ⟨w.heap.size, 1, none⟩ = some (xa) ∧ w'.cell? ⟨w.heap.size + 1, 1, none⟩ = some (xb)) (first | (go_simp; done) | (go_keep; done) | (refine ⟨?_, ?_, ?_⟩ <;> first | (go_simp; done) | (go_keep; done))) (first | (go_at_call 209; refine (minus_any _ _ a.natAbs b.natAbs _ (HA1.out.drewN _) (HB1.out.drewN _) HS.out.2.1 hle).mono ?_; rintro e w1 ⟨v, rfl, hv, hfv, hbw⟩; obtain ⟨av, cv, hve⟩ := hv.shape; subst hve; have c0_0 := hbw.cell (p := ⟨w.heap.size, 0, none⟩) (by first | omega | (simp <;> omega)); have f0_0 := hbw.frozen (p := ⟨w.heap.size, 0, none⟩) (by first | omega | (simp <;> omega)); have c0_1 := hbw.cell (p := ⟨w.heap.size, 1, none⟩) (by first | omega | (simp <;> omega)); have f0_1 := hbw.frozen (p := ⟨w.heap.size, 1, none⟩) (by first | omega | (simp <;> omega)); have c1_0 := hbw.cell (p := ⟨w.heap.size + 1, 0, none⟩) (by first | omega | (simp <;> omega)); have f1_0 := hbw.frozen (p := ⟨w.heap.size + 1, 0, none⟩) (by first | omega | (simp <;> omega)); have c1_1 := hbw.cell (p := ⟨w.heap.size + 1, 1, none⟩) (by first | omega | (simp <;> omega)); have f1_1 := hbw.frozen (p := ⟨w.heap.size + 1, 1, none⟩) (by first | omega | (simp <;> omega)); have c2_0 := hbw.cell (p := ⟨w.heap.size + 1 + 1, 0, none⟩) (by first | omega | (simp <;> omega)); have f2_0 := hbw.frozen (p := ⟨w.heap.size + 1 + 1, 0, none⟩) (by first | omega | (simp <;> omega)); have c2_1 := hbw.cell (p := ⟨w.heap.size + 1 + 1, 1, none⟩) (by first | omega | (simp <;> omega)); have f2_1 := hbw.frozen (p := ⟨w.heap.size + 1 + 1, 1, none⟩) (by first | omega | (simp <;> omega)); have hz : w.heap.size + 1 + 1 < w1.heap.size := by have := hbw.size; simp at this; omega))
      go_wp2
      have e0 : (a + b).natAbs = a.natAbs - b.natAbs := by
        have := HA2.out; have := HB2.out; have := HA3.out; have := HB3.out; have := HNN.out
        cases na <;> cases nb <;> simp_all <;> omega
      refine bodyPost_ret (v := .agg #[.bool na, .slice av (digs (a.natAbs - b.natAbs)).length cv]) (by simp [results, Try.results186, go_sem, *]) rfl ⟨_, rfl, ⟨_, _, rfl, ?_, fun h => ?_, fun h => ?_⟩, ⟨_, _, rfl, hfv.mono (by simp; omega)⟩, ?_⟩
      · rw [e0]; exact (hv.setCell hfv (by simp) _).setCell hfv (by simp) _
      · have := HA2.out h; omega
      · have := HA3.out h; omega
      · exact (((below_drewN HBZ.out _).trans (hbw.mono (by simp; omega))).setCell (by simp; omega) _).setCell (by simp; omega) _
    · have hle : a.natAbs < b.natAbs := by rw [← hr] at hge; unfold ordI at hge; split at hge <;> omega
      have HR := Lib.hid hr; clear hr
      go_enter Try.func186, Try.ntmps186
      go_wp2_with (go_at_call 207; refine HOR.out.mono ?_; rintro e w0 ⟨rfl, d, rfl⟩)
      go_region_held3 (fun w' => w'.cell? ⟨w.heap.size + 1, 0, none⟩ = some (.bool nb) ∧ w'.cell? ⟨w.heap.size, 1, none⟩ = some (xa) ∧ w'.cell? ⟨w.heap.size + 1, 1, none⟩ = some (xb)) (first | (go_simp; done) | (go_keep; done) | (refine ⟨?_, ?_, ?_⟩ <;> first | (go_simp; done) | (go_keep; done))) (first | (go_at_call 209; refine (minus_any _ _ b.natAbs a.natAbs _ (HB1.out.drewN _) (HA1.out.drewN _) HS.out.2.2 (Nat.le_of_lt hle)).mono ?_; rintro e w1 ⟨v, rfl, hv, hfv, hbw⟩; obtain ⟨av, cv, hve⟩ := hv.shape; subst hve; have c0_0 := hbw.cell (p := ⟨w.heap.size, 0, none⟩) (by first | omega | (simp <;> omega)); have f0_0 := hbw.frozen (p := ⟨w.heap.size, 0, none⟩) (by first | omega | (simp <;> omega)); have c0_1 := hbw.cell (p := ⟨w.heap.size, 1, none⟩) (by first | omega | (simp <;> omega)); have f0_1 := hbw.frozen (p := ⟨w.heap.size, 1, none⟩) (by first | omega | (simp <;> omega)); have c1_0 := hbw.cell (p := ⟨w.heap.size + 1, 0, none⟩) (by first | omega | (simp <;> omega)); have f1_0 := hbw.frozen (p := ⟨w.heap.size + 1, 0, none⟩) (by first | omega | (simp <;> omega)); have c1_1 := hbw.cell (p := ⟨w.heap.size + 1, 1, none⟩) (by first | omega | (simp <;> omega)); have f1_1 := hbw.frozen (p := ⟨w.heap.size + 1, 1, none⟩) (by first | omega | (simp <;> omega)); have c2_0 := hbw.cell (p := ⟨w.heap.size + 1 + 1, 0, none⟩) (by first | omega | (simp <;> omega)); have f2_0 := hbw.frozen (p := ⟨w.heap.size + 1 + 1, 0, none⟩) (by first | omega | (simp <;> omega)); have c2_1 := hbw.cell (p := ⟨w.heap.size + 1 + 1, 1, none⟩) (by first | omega | (simp <;> omega)); have f2_1 := hbw.frozen (p := ⟨w.heap.size + 1 + 1, 1, none⟩) (by first | omega | (simp <;> omega)); have hz : w.heap.size + 1 + 1 < w1.heap.size := by have := hbw.size; simp at this; omega))
      go_wp2
      have e0 : (a + b).natAbs = b.natAbs - a.natAbs := by
        have := HA2.out; have := HB2.out; have := HA3.out; have := HB3.out; have := HNN.out
        cases na <;> cases nb <;> simp_all <;> omega
      refine bodyPost_ret (v := .agg #[.bool nb, .slice av (digs (b.natAbs - a.natAbs)).length cv]) (by simp [results, Try.results186, go_sem, *]) rfl ⟨_, rfl, ⟨_, _, rfl, ?_, fun h => ?_, fun h => ?_⟩, ⟨_, _, rfl, hfv.mono (by simp; omega)⟩, ?_⟩
      · rw [e0]; exact (hv.setCell hfv (by simp) _).setCell hfv (by simp) _
      · have := HB2.out h; omega
      · have := HB3.out h; omega
      · exact (((below_drewN HBZ.out _).trans (hbw.mono (by simp; omega))).setCell (by simp; omega) _).setCell (by simp; omega) _
end Go.Proofs.Ytjmjnkilgoelbaa

namespace Go.Proofs.Ytjmjnkilgoelbaa
open Go.RowKit

theorem Sm.len {m : Nat} (h : (digs m).length ≤ 1000) : Sm m := by unfold Sm; omega

theorem Ints.nil (k : IntKind) (w : World) : Ints k w (.slice none 0 0) [] := ⟨none, 0, rfl, by simp, by omega, by simp, fun i x h => by simp at h⟩

theorem digs_mul_len {m n : Nat} : (digs (m * n)).length ≤ (digs m).length + (digs n).length := by
  refine digs_len _ _ ?_
  rw [Nat.pow_add]
  exact Nat.mul_lt_mul'' (digs_lt_pow m) (digs_lt_pow n)

theorem made_ints' (k : IntKind) (n : Nat) : (madeCells #[.int k 0] n).toList = (List.replicate n (0 : Int)).map (Value.int k) := by
  have := made_ints k n
  rwa [Nat.mul_one] at this

theorem mulL_step {x c y : Int} {l : List Int} {j : Nat} (h : l[j]? = some y) : mulL x (l.drop j) c = (x * y + c) % 65536 :: mulL x (l.drop (j + 1)) ((x * y + c) / 65536) := by
  have hk : j < l.length := (List.getElem?_eq_some_iff.1 h).1
  rw [drop_getD hk, getD_of h]; rfl

theorem trimL_len (l : List Int) : (trimL l).length ≤ l.length := by
  unfold trimL
  rw [List.length_reverse]
  exact Nat.le_trans (List.dropWhile_suffix _).length_le (by simp)

theorem times_row {la : List Int} {k n : Nat} {x : Int} (hd : Dig la) (hx : la[k]? = some x) :
    ∃ R, trimL (List.replicate k 0 ++ mulL x (digs n) 0) = digs R ∧ bv (la.take k) * n + R = bv (la.take (k + 1)) * n ∧ (digs R).length ≤ k + (digs n).length + 1 := by
  obtain ⟨_, h2⟩ := times_step (n := n) hd hx
  have hx0 := hd x (List.mem_of_getElem? hx)
  obtain ⟨g1, g2⟩ := mulL_spec x hx0 (digs n) 0 (digs_dig n) (by omega)
  refine ⟨_, trimL_digs h2, ?_, ?_⟩
  · rw [bv_zeros, g2, bv_digs, bv_take_succ hx, Nat.add_mul, Nat.mul_assoc]; simp
  · rw [← trimL_digs h2]
    exact Nat.le_trans (trimL_len _) (by simp [mulL_len]; omega)

end Go.Proofs.Ytjmjnkilgoelbaa

namespace Go.Proofs.Ytjmjnkilgoelbaa
open Go.RowKit

theorem bv_drop {l : List Int} {j : Nat} {x : Int} (h : l[j]? = some x) : bv (l.drop j) = x.toNat + 65536 * bv (l.drop (j + 1)) := by
  have hk : j < l.length := (List.getElem?_eq_some_iff.1 h).1
  rw [drop_getD hk, getD_of h]; rfl

theorem bv_drop_le (l : List Int) (j : Nat) : bv (l.drop j) ≤ bv l := by
  have h := bv_append (l.take j) (l.drop j)
  rw [List.take_append_drop] at h
  have h1 : 1 ≤ 65536 ^ (l.take j).length := Nat.pow_pos (by omega)
  have h2 : 1 * bv (l.drop j) ≤ 65536 ^ (l.take j).length * bv (l.drop j) := Nat.mul_le_mul_right _ h1
  omega

def FitB (w : World) (e : Ending) (w' : World) (z : Int) : Prop := e = .returned (.tuple #[.int .i64 (fitV z), .int .i64 (fitE z)]) ∧ Below w.heap.size w w'

set_option maxRecDepth 100000 in
set_option maxHeartbeats 1000000 in
theorem fits_any (v : Value) (z : Int) (w : World) (h : WholeR w v z) :
    Calls Try.prog 185 #[v] w fun e w' => FitB w e w' z := by
  obtain ⟨neg, vb, rfl, h1, h2, h3⟩ := h
  obtain ⟨l, hl⟩ : ∃ l, digs z.natAbs = l := ⟨_, rfl⟩
  have hd : Dig l := by rw [← hl]; exact digs_dig _
  have hv : bv l = z.natAbs := by rw [← hl]; exact bv_digs _
  have HD := Lib.hid hd; clear hd
  have HV := Lib.hid hv; clear hv
  rw [hl] at h1
  have h1' := h1
  obtain ⟨a, c, rfl, hc1, hc2, hc3, hA⟩ := h1
  have hb0 : Below w.heap.size w (w.alloc (.cells #[.bool neg, .slice a l.length c] 239)) := (Below.refl _ _).alloc (Nat.le_refl _) _
  have hof := of_any 9223372036854775808 (w.alloc (.cells #[.bool neg, .slice a l.length c] 239)) (by omega)
  rw [show ((9223372036854775808 : Nat) : Int) = 9223372036854775808 from rfl] at hof
  have HOF := Lib.hid hof; clear hof
  have HB1 := Lib.hid (h1'.below hb0); clear h1'
  have HA := Lib.hid hA; clear hA
  have HBZ := Lib.hid hb0; clear hb0
  have H2 := Lib.hid h2; clear h2
  have H3 := Lib.hid h3; clear h3
  have HL := Lib.hid hl
  by_cases hbig : 9223372036854775808 < z.natAbs ∨ (z.natAbs = 9223372036854775808 ∧ neg = false)
  · have hno : ¬ Ok64 z := by
      have := H2.out; have := H3.out; unfold Ok64
      rcases hbig with h | ⟨h, rfl⟩
      · omega
      · have := H3.out rfl; omega
    have HNO := Lib.hid hno; clear hno
    rcases hbig with h | ⟨h, rfl⟩
    · have ho : ordI z.natAbs 9223372036854775808 = 1 := by unfold ordI; rw [if_neg (by omega), if_pos h]
      have HO := Lib.hid ho; clear ho h hl
      go_enter Try.func185, Try.ntmps185
      go_wp2_with (first | (go_at_call 206; refine HOF.out.mono ?_; rintro e w1 ⟨vt, rfl, hvt, hft, hbw⟩; have c0_0 := hbw.cell (p := ⟨w.heap.size, 0, none⟩) (by first | omega | (simp <;> omega)); have f0_0 := hbw.frozen (p := ⟨w.heap.size, 0, none⟩) (by first | omega | (simp <;> omega)); have c0_1 := hbw.cell (p := ⟨w.heap.size, 1, none⟩) (by first | omega | (simp <;> omega)); have f0_1 := hbw.frozen (p := ⟨w.heap.size, 1, none⟩) (by first | omega | (simp <;> omega))) | (go_at_call 207; refine (order_any _ _ z.natAbs 9223372036854775808 _ (HL.out ▸ HB1.out.below hbw) hvt).mono ?_; rw [HO.out]; rintro e w2 ⟨rfl, d, rfl⟩))
      go_ret2
      exact ⟨ret2 (fitV_no HNO.out).symm (fitE_no HNO.out).symm, below_drewN (HBZ.out.trans (hbw.mono (by simp))) _⟩
    · have ho : ordI z.natAbs 9223372036854775808 = 0 := by unfold ordI; rw [if_neg (by omega), if_neg (by omega)]
      have HO := Lib.hid ho; clear ho h hl
      go_enter Try.func185, Try.ntmps185
      go_wp2_with (first | (go_at_call 206; refine HOF.out.mono ?_; rintro e w1 ⟨vt, rfl, hvt, hft, hbw⟩; have c0_0 := hbw.cell (p := ⟨w.heap.size, 0, none⟩) (by first | omega | (simp <;> omega)); have f0_0 := hbw.frozen (p := ⟨w.heap.size, 0, none⟩) (by first | omega | (simp <;> omega)); have c0_1 := hbw.cell (p := ⟨w.heap.size, 1, none⟩) (by first | omega | (simp <;> omega)); have f0_1 := hbw.frozen (p := ⟨w.heap.size, 1, none⟩) (by first | omega | (simp <;> omega))) | (go_at_call 207; refine (order_any _ _ z.natAbs 9223372036854775808 _ (HL.out ▸ HB1.out.below hbw) hvt).mono ?_; rw [HO.out]; rintro e w2 ⟨rfl, d, rfl⟩))
      go_ret2
      exact ⟨ret2 (fitV_no HNO.out).symm (fitE_no HNO.out).symm, below_drewN (HBZ.out.trans (hbw.mono (by simp))) _⟩
  · have hok : Ok64 z := by
      have := H2.out; have := H3.out; unfold Ok64
      cases neg with
      | false => have := H3.out rfl; simp at hbig; omega
      | true => have := H2.out rfl; simp at hbig; omega
    have hbn : bv l ≤ 9223372036854775808 := by rw [HV.out]; omega
    have HOK := Lib.hid hok; clear hok
    have ho : ∃ r, ordI z.natAbs 9223372036854775808 = r ∧ (r = -1 ∨ (r = 0 ∧ neg = true)) := by
      refine ⟨_, rfl, ?_⟩
      unfold ordI
      by_cases h : z.natAbs < 9223372036854775808
      · left; rw [if_pos h]
      · right; refine ⟨by rw [if_neg h, if_neg (by omega)], ?_⟩
        cases neg with
        | true => rfl
        | false => simp at hbig; omega
    clear hbig hl
    have HBN := Lib.hid hbn; clear hbn
    obtain ⟨r, ho, hr⟩ := ho
    have HO := Lib.hid ho; clear ho
    have hcases : (neg = false ∧ r = -1) ∨ (neg = true ∧ r = -1) ∨ (neg = true ∧ r = 0) := by
      cases neg <;> simp_all
    clear hr
    have hbn1 : r = -1 → bv l ≤ 9223372036854775807 := fun h => by
      have := HO.out; rw [h] at this; unfold ordI at this; rw [HV.out]
      by_cases h1 : z.natAbs < 9223372036854775808
      · omega
      · rw [if_neg h1] at this; split at this <;> omega
    rcases hcases with ⟨rfl, rfl⟩ | ⟨rfl, rfl⟩ | ⟨rfl, rfl⟩
    all_goals have HBN1 := Lib.hid hbn1
    all_goals clear hbn1
    · go_enter Try.func185, Try.ntmps185
      go_wp2_with (first | (go_at_call 206; refine HOF.out.mono ?_; rintro e w1 ⟨vt, rfl, hvt, hft, hbw⟩; have c0_0 := hbw.cell (p := ⟨w.heap.size, 0, none⟩) (by first | omega | (simp <;> omega)); have f0_0 := hbw.frozen (p := ⟨w.heap.size, 0, none⟩) (by first | omega | (simp <;> omega)); have c0_1 := hbw.cell (p := ⟨w.heap.size, 1, none⟩) (by first | omega | (simp <;> omega)); have f0_1 := hbw.frozen (p := ⟨w.heap.size, 1, none⟩) (by first | omega | (simp <;> omega))) | (go_at_call 207; refine (order_any _ _ z.natAbs 9223372036854775808 _ (HL.out ▸ HB1.out.below hbw) hvt).mono ?_; rw [HO.out]; rintro e w2 ⟨rfl, d, rfl⟩))
      go_loopw [6, 7] (fun m i wr => ∃ (k p : Nat), k ≤ l.length ∧ i = .int .i64 ((k : Int) - 1) ∧ m = .int .i64 (p : Int) ∧ bv (l.drop k) = p ∧ p ≤ 9223372036854775807 ∧ wr = w1.drewN d) (fun _ i _ => (intOf i + 1).toNat)
      case atStart => exact ⟨l.length, 0, Nat.le_refl _, rfl, rfl, by rw [List.drop_of_length_le (Nat.le_refl _)]; rfl, by omega, rfl⟩
      case round =>
        obtain ⟨k, p, hk, rfl, rfl, hp, hpb, rfl⟩ := hrel
        have HP := Lib.hid hp; clear hp
        by_cases h0 : 0 < k
        · obtain ⟨j, hj⟩ : ∃ j, k = j + 1 := ⟨k - 1, by omega⟩
          subst hj
          have e1 : ((j + 1 : Nat) : Int) - 1 = j := by omega
          rw [e1]
          clear e1
          have hjl : j < l.length := by omega
          obtain ⟨x, hx⟩ := getElem?_ex hjl
          have hxb := HD.out x (List.mem_of_getElem? hx)
          have hst := bv_drop hx
          rw [HP.out] at hst
          have hle := bv_drop_le l j
          have hle2 := Nat.le_trans hle (HBN1.out (by first | rfl | trivial))
          obtain ⟨b1, o1, rfl, hb1, hc1'⟩ := HA.out j x hx
          have cx := (((Below.refl w.heap.size w).alloc (Nat.le_refl _) _).trans (hbw.mono (by simp)) |>.cell (p := ⟨b1, o1 + j, none⟩) hb1).trans hc1'
          clear hle hc1'
          obtain ⟨p', hp'⟩ : ∃ p', bv (l.drop j) = p' := ⟨_, rfl⟩
          rw [hp'] at hst hle2
          have HX := Lib.hid hx; clear hx
          have HP' := Lib.hid hp'; clear hp'
          have b1 : 65536 * (p : Int) + x ≤ 9223372036854775807 := by omega
          have HST := Lib.hid hst; clear hst
          go_wp2
          go_roundw
          case rel => exact ⟨j, p', by omega, rfl, by have := HST.out; go_num, HP'.out, hle2, by first | rfl | trivial⟩
          case measure => simp [intOf] <;> omega
        · obtain rfl : k = 0 := by omega
          have hz : z = p := by
            have := HP.out; have := H3.out (by simp); have h5 := HV.out; have h6 := HP.out; simp at h6; omega
          have HZ := Lib.hid hz; clear hz
          go_wp2
          go_ret2
          refine ⟨ret2 (by rw [fitV_yes HOK.out]; exact HZ.out.symm) (fitE_yes HOK.out).symm, below_drewN (HBZ.out.trans (hbw.mono (by simp))) _⟩
    · go_enter Try.func185, Try.ntmps185
      go_wp2_with (first | (go_at_call 206; refine HOF.out.mono ?_; rintro e w1 ⟨vt, rfl, hvt, hft, hbw⟩; have c0_0 := hbw.cell (p := ⟨w.heap.size, 0, none⟩) (by first | omega | (simp <;> omega)); have f0_0 := hbw.frozen (p := ⟨w.heap.size, 0, none⟩) (by first | omega | (simp <;> omega)); have c0_1 := hbw.cell (p := ⟨w.heap.size, 1, none⟩) (by first | omega | (simp <;> omega)); have f0_1 := hbw.frozen (p := ⟨w.heap.size, 1, none⟩) (by first | omega | (simp <;> omega))) | (go_at_call 207; refine (order_any _ _ z.natAbs 9223372036854775808 _ (HL.out ▸ HB1.out.below hbw) hvt).mono ?_; rw [HO.out]; rintro e w2 ⟨rfl, d, rfl⟩))
      go_loopw [6, 7] (fun m i wr => ∃ (k p : Nat), k ≤ l.length ∧ i = .int .i64 ((k : Int) - 1) ∧ m = .int .i64 (-(p : Int)) ∧ bv (l.drop k) = p ∧ p ≤ 9223372036854775808 ∧ wr = w1.drewN d) (fun _ i _ => (intOf i + 1).toNat)
      case atStart => exact ⟨l.length, 0, Nat.le_refl _, rfl, rfl, by rw [List.drop_of_length_le (Nat.le_refl _)]; rfl, by omega, rfl⟩
      case round =>
        obtain ⟨k, p, hk, rfl, rfl, hp, hpb, rfl⟩ := hrel
        have HP := Lib.hid hp; clear hp
        by_cases h0 : 0 < k
        · obtain ⟨j, hj⟩ : ∃ j, k = j + 1 := ⟨k - 1, by omega⟩
          subst hj
          have e1 : ((j + 1 : Nat) : Int) - 1 = j := by omega
          rw [e1]
          clear e1
          have hjl : j < l.length := by omega
          obtain ⟨x, hx⟩ := getElem?_ex hjl
          have hxb := HD.out x (List.mem_of_getElem? hx)
          have hst := bv_drop hx
          rw [HP.out] at hst
          have hle := bv_drop_le l j
          have hle2 := Nat.le_trans hle HBN.out
          obtain ⟨b1, o1, rfl, hb1, hc1'⟩ := HA.out j x hx
          have cx := (((Below.refl w.heap.size w).alloc (Nat.le_refl _) _).trans (hbw.mono (by simp)) |>.cell (p := ⟨b1, o1 + j, none⟩) hb1).trans hc1'
          clear hle hc1'
          obtain ⟨p', hp'⟩ : ∃ p', bv (l.drop j) = p' := ⟨_, rfl⟩
          rw [hp'] at hst hle2
          have HX := Lib.hid hx; clear hx
          have HP' := Lib.hid hp'; clear hp'
          have b1 : 65536 * (p : Int) + x ≤ 9223372036854775808 := by omega
          have HST := Lib.hid hst; clear hst
          go_wp2
          go_roundw
          case rel => exact ⟨j, p', by omega, rfl, by have := HST.out; go_num, HP'.out, hle2, by first | rfl | trivial⟩
          case measure => simp [intOf] <;> omega
        · obtain rfl : k = 0 := by omega
          have hz : z = -(p : Int) := by
            have := HP.out; have := H2.out (by simp); have h5 := HV.out; have h6 := HP.out; simp at h6; omega
          have HZ := Lib.hid hz; clear hz
          go_wp2
          go_ret2
          refine ⟨ret2 (by rw [fitV_yes HOK.out]; exact HZ.out.symm) (fitE_yes HOK.out).symm, below_drewN (HBZ.out.trans (hbw.mono (by simp))) _⟩
    · go_enter Try.func185, Try.ntmps185
      go_wp2_with (first | (go_at_call 206; refine HOF.out.mono ?_; rintro e w1 ⟨vt, rfl, hvt, hft, hbw⟩; have c0_0 := hbw.cell (p := ⟨w.heap.size, 0, none⟩) (by first | omega | (simp <;> omega)); have f0_0 := hbw.frozen (p := ⟨w.heap.size, 0, none⟩) (by first | omega | (simp <;> omega)); have c0_1 := hbw.cell (p := ⟨w.heap.size, 1, none⟩) (by first | omega | (simp <;> omega)); have f0_1 := hbw.frozen (p := ⟨w.heap.size, 1, none⟩) (by first | omega | (simp <;> omega))) | (go_at_call 207; refine (order_any _ _ z.natAbs 9223372036854775808 _ (HL.out ▸ HB1.out.below hbw) hvt).mono ?_; rw [HO.out]; rintro e w2 ⟨rfl, d, rfl⟩))
      go_loopw [6, 7] (fun m i wr => ∃ (k p : Nat), k ≤ l.length ∧ i = .int .i64 ((k : Int) - 1) ∧ m = .int .i64 (-(p : Int)) ∧ bv (l.drop k) = p ∧ p ≤ 9223372036854775808 ∧ wr = w1.drewN d) (fun _ i _ => (intOf i + 1).toNat)
      case atStart => exact ⟨l.length, 0, Nat.le_refl _, rfl, rfl, by rw [List.drop_of_length_le (Nat.le_refl _)]; rfl, by omega, rfl⟩
      case round =>
        obtain ⟨k, p, hk, rfl, rfl, hp, hpb, rfl⟩ := hrel
        have HP := Lib.hid hp; clear hp
        by_cases h0 : 0 < k
        · obtain ⟨j, hj⟩ : ∃ j, k = j + 1 := ⟨k - 1, by omega⟩
          subst hj
          have e1 : ((j + 1 : Nat) : Int) - 1 = j := by omega
          rw [e1]
          clear e1
          have hjl : j < l.length := by omega
          obtain ⟨x, hx⟩ := getElem?_ex hjl
          have hxb := HD.out x (List.mem_of_getElem? hx)
          have hst := bv_drop hx
          rw [HP.out] at hst
          have hle := bv_drop_le l j
          have hle2 := Nat.le_trans hle HBN.out
          obtain ⟨b1, o1, rfl, hb1, hc1'⟩ := HA.out j x hx
          have cx := (((Below.refl w.heap.size w).alloc (Nat.le_refl _) _).trans (hbw.mono (by simp)) |>.cell (p := ⟨b1, o1 + j, none⟩) hb1).trans hc1'
          clear hle hc1'
          obtain ⟨p', hp'⟩ : ∃ p', bv (l.drop j) = p' := ⟨_, rfl⟩
          rw [hp'] at hst hle2
          have HX := Lib.hid hx; clear hx
          have HP' := Lib.hid hp'; clear hp'
          have b1 : 65536 * (p : Int) + x ≤ 9223372036854775808 := by omega
          have HST := Lib.hid hst; clear hst
          go_wp2
          go_roundw
          case rel => exact ⟨j, p', by omega, rfl, by have := HST.out; go_num, HP'.out, hle2, by first | rfl | trivial⟩
          case measure => simp [intOf] <;> omega
        · obtain rfl : k = 0 := by omega
          have hz : z = -(p : Int) := by
            have := HP.out; have := H2.out (by simp); have h5 := HV.out; have h6 := HP.out; simp at h6; omega
          have HZ := Lib.hid hz; clear hz
          go_wp2
          go_ret2
          refine ⟨ret2 (by rw [fitV_yes HOK.out]; exact HZ.out.symm) (fitE_yes HOK.out).symm, below_drewN (HBZ.out.trans (hbw.mono (by simp))) _⟩
end Go.Proofs.Ytjmjnkilgoelbaa

namespace Go.Proofs.Ytjmjnkilgoelbaa
open Go.RowKit

attribute [local go_sem ↓] Go.wp_at_zero Go.wp_at_succ

theorem Sm.ok {z : Int} (h : Ok64 z) : Sm z.natAbs := Sm.of (k := 4) (by unfold Ok64 at h; omega) (by omega)

set_option maxRecDepth 100000 in
set_option maxHeartbeats 400000 in
theorem turn_any (v : Value) (z : Int) (w : World) (h : WholeR w v z) :
    Calls Try.prog 188 #[v] w fun e w' => ∃ v', e = .returned v' ∧ WholeR w' v' (-z) ∧ Below w.heap.size w w' := by
  obtain ⟨neg, vb, rfl, h1, h2, h3⟩ := h
  have H1 := Lib.hid h1
  obtain ⟨a, c, rfl, _, _, _, _⟩ := h1
  have H2 := Lib.hid h2; clear h2
  have H3 := Lib.hid h3; clear h3
  go_enter Try.func188, Try.ntmps188
  go_wp2
  refine bodyPost_ret (v := .agg #[.bool (!neg), .slice a (digs z.natAbs).length c]) (by simp [results, Try.results188, go_sem, *]) rfl ⟨_, rfl, ⟨_, _, rfl, ?_, fun h => ?_, fun h => ?_⟩, ?_⟩
  · rw [Int.natAbs_neg]
    exact H1.out.below (by (repeat (first | with_reducible exact Below.refl _ _ | with_reducible refine Bs ?_ | with_reducible refine Ba ?_ | with_reducible refine Bd ?_ | with_reducible refine Bn ?_)))
  · have := H3.out (by simpa using h); omega
  · have := H2.out (by simpa using h); omega
  · (repeat (first | with_reducible exact Below.refl _ _ | with_reducible refine Bs ?_ | with_reducible refine Ba ?_ | with_reducible refine Bd ?_ | with_reducible refine Bn ?_))

end Go.Proofs.Ytjmjnkilgoelbaa

namespace Go.Proofs.Ytjmjnkilgoelbaa
open Go.RowKit

attribute [local go_sem ↓] Go.wp_at_zero Go.wp_at_succ

set_option maxHeartbeats 400000 in
theorem rsub_any (a b : Int) (w : World) (ha : Ok64 a) (hb : Ok64 b) :
    Calls Try.prog 153 #[.int .i64 a, .int .i64 b] w fun e w' => FitB w e w' (a - b) := by
  have SA := Lib.hid (Sm.ok ha)
  have SB : Hid (Sm (-b).natAbs) := by rw [Int.natAbs_neg]; exact Sm.ok hb
  go_enter Try.func153, Try.ntmps153
  go_wp2_with fail
  refine (int_any a _ ha.1 ha.2).mono ?_
  rintro e w1 ⟨v1, rfl, hv1, _, hb1⟩
  go_wp2_with fail
  refine (int_any b _ hb.1 hb.2).mono ?_
  rintro e w2 ⟨v2, rfl, hv2, _, hb2⟩
  go_wp2_with fail
  refine (turn_any v2 b _ hv2).mono ?_
  rintro e w5 ⟨v5, rfl, hv5, hb5⟩
  go_wp2_with fail
  refine (both_any v1 v5 a (-b) _ ((hv1.below hb2).below hb5) hv5 SA.out SB.out).mono ?_
  rintro e w3 ⟨v3, rfl, hv3, _, hb3⟩
  rw [← Int.sub_eq_add_neg] at hv3
  go_wp2_with fail
  refine (fits_any v3 _ _ hv3).mono ?_
  rintro e w4 ⟨rfl, hb4⟩
  go_wp2
  go_ret2
  exact ⟨rfl, hb1.trans ((hb2.trans ((hb5.trans ((hb3.trans (hb4.mono hb3.size)).mono hb5.size)).mono hb2.size)).mono hb1.size)⟩

end Go.Proofs.Ytjmjnkilgoelbaa
