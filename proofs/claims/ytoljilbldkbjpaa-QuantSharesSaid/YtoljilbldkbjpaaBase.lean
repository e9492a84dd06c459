/-
  Words and small laws for all walks of this seat: slices that read as integers, appending one element to a slice of the call's own.
-/
import Derived.Test.YtoljilbldkbjpaaRows
import Derived.WalkKit
import Derived.WalkSpells
import Derived.WalkLawsBesides
import Derived.Deep.QuietTactic
import Derived.BigQuiet
import Derived.Lib.Hide
import Derived.Deep.DeepMust
import Derived.Deep.RegionHeld3
import Derived.Deep.DeepFit
import Derived.Outline
import Derived.Deep.DrawnRows
namespace Go.Proofs.Ytoljilbldkbjpaa
open Go.RowKit

/-- v is a slice whose elements are the integers l. -/
def Ints (k : IntKind) (w : World) (v : Value) (l : List Int) : Prop :=
  ∃ a c, v = .slice a l.length c ∧ l.length ≤ c ∧ c ≤ 9223372036854775807 ∧ l.length ≤ 140737488351232 ∧
    ∀ (i : Nat) (x : Int), l[i]? = some x → ∃ b o, a = some ⟨b, o, none⟩ ∧ b < w.heap.size ∧ w.cell? ⟨b, o + i, none⟩ = some (.int k x)

theorem Ints.shape {k : IntKind} {w : World} {v : Value} {l : List Int} (h : Ints k w v l) : ∃ a c, v = .slice a l.length c := by
  obtain ⟨a, c, e, _⟩ := h; exact ⟨a, c, e⟩

/-- v lies from block B on (or holds nothing). -/
def Fresh (B : Nat) (v : Value) : Prop := ∀ a n c, v = .slice (some a) n c → n ≠ 0 → B ≤ a.block
theorem Fresh.zero (v : Value) : Fresh 0 v := fun _ _ _ _ _ => Nat.zero_le _
theorem Fresh.mono {B B' : Nat} {v : Value} (h : Fresh B v) (hb : B' ≤ B) : Fresh B' v := fun a n c e h0 => Nat.le_trans hb (h a n c e h0)
theorem Fresh.own {w : World} {base e size n : Nat} {v : Value} {xs : List Value} (h : w.ownsRow base e size v n xs) : Fresh base v := fun a n c e _ =>
  (h.lt a.block (by rw [e]; rfl)).1
theorem Fresh.cut {B k n c : Nat} {a : Option Addr} (h : Fresh B (.slice a n c)) (hk : k ≤ n) : Fresh B (.slice a k c) := fun a' n' c' e h0 => by
  injection e with e1 e2 e3
  subst e1 e2 e3
  exact h _ _ _ rfl (by omega)

theorem Ints.setCell {k : IntKind} {w : World} {v : Value} {l : List Int} {B : Nat} {A : Addr} (h : Ints k w v l) (hf : Fresh B v) (hA : A.block < B) (u : Value) : Ints k (w.setCell A u) v l := by
  obtain ⟨a, c, rfl, h1, h2, h3, h⟩ := h
  refine ⟨a, c, rfl, h1, h2, h3, fun i x hi => ?_⟩
  obtain ⟨b, o, e, hlt, hc⟩ := h i x hi
  refine ⟨b, o, e, by simpa [World.setCell] using hlt, ?_⟩
  have hb : B ≤ b := hf ⟨b, o, none⟩ l.length c (by rw [e]) (by have := (List.getElem?_eq_some_iff.1 hi).1; omega)
  exact (World.cell?_of_block (w := w) (a := ⟨b, o + i, none⟩) (Below.heap_setCell _ _ _ _ (show b ≠ A.block by omega))).trans hc

theorem Ints.below {k : IntKind} {w w' : World} {v : Value} {l : List Int} (h : Ints k w v l) (hb : Below w.heap.size w w') : Ints k w' v l := by
  obtain ⟨a, c, rfl, h1, h2, h3, h⟩ := h
  refine ⟨a, c, rfl, h1, h2, h3, fun i x hi => ?_⟩
  obtain ⟨b, o, e, hlt, hc⟩ := h i x hi
  exact ⟨b, o, e, Nat.lt_of_lt_of_le hlt hb.size, (hb.cell (p := ⟨b, o + i, none⟩) hlt).trans hc⟩

/-- What the call built itself reads as a slice of integers. -/
theorem Ints.own {k : IntKind} {w : World} {base e n : Nat} {v : Value} {l : List Int} (h : w.ownsRow base e 1 v n (l.map (Value.int k))) (hl : l.length ≤ 140737488351232) : n = l.length ∧ Ints k w v l := by
  have hlen : l.length = n := by simpa using h.1
  refine ⟨hlen.symm, ?_⟩
  subst hlen
  rcases h.2 with ⟨rfl, h0⟩ | ⟨g, cap, cur, rfl, hb, hg, h1, h2, h3, h4⟩
  · have : l = [] := List.eq_nil_of_length_eq_zero h0
    subst this
    exact ⟨none, 0, rfl, by simp, by omega, by simp, fun i x hi => by simp at hi⟩
  · refine ⟨_, _, rfl, h1, by simpa [maxLen] using h2, hl, fun i x hi => ⟨g, 0, rfl, (Array.getElem?_eq_some_iff.1 hg).1, ?_⟩⟩
    have hi' : (l.map (Value.int k))[i]? = some (.int k x) := by simp [hi]
    have := World.ownsRow.cells h (g := g) rfl i _ hi'
    have hadd : (⟨g, 0, none⟩ : Addr).add i = ⟨g, 0 + i, none⟩ := by unfold Addr.add; split <;> simp_all
    rwa [hadd] at this


/-- What the table says of an element type: its zero, its cells, its bytes. -/
def EI (P : Program) (e : TypeId) (z : Value) (size bytes : Nat) : Prop :=
  ∃ i, P.info? e = some i ∧ i.zero = some z ∧ i.size = size ∧ i.bytes = bytes ∧ z.cells.size = size ∧ 0 < size ∧ 0 < bytes

theorem EI.of {P : Program} {e : TypeId} {z : Value} {size bytes : Nat} (h : (P.info? e).map (fun i => (i.zero, i.size, i.bytes)) = some (some z, size, bytes)) (h1 : z.cells.size = size) (h2 : 0 < size) (h3 : 0 < bytes) : EI P e z size bytes := by
  obtain ⟨i, a, b, c, d⟩ := info_parts h
  exact ⟨i, a, b, c, d, h1, h2, h3⟩

/-- One element is appended to a slice of the call's own: it lies in the block laid last. -/
theorem app1 {P : Program} {ops : Array Oper} {rest : List Oper} {o : Oper} {a : Act} {Q : Exit → Act → World → Prop} (hgd : o.guard = none) (s x : Operand) (t : TypeId)
    (ho : o.op = .call { callee := .builtin .append, args := #[s, x], argTypes := #[t, t] })
    {e : TypeId} {z : Value} {size bytes : Nat} (ht : P.underlying t = some (.slice e)) (hE : EI P e z size bytes)
    (base : Nat) {v : Value} {n : Nat} {xs : List Value} {W : World} {cs : Array Value} {T : TypeId} {C : Nat} (hs : a.eval s = v) (hown : W.ownsRow base e size v n xs)
    (hx : a.eval x = .slice (some ⟨W.heap.size, 0, none⟩) 1 C) (hcs : cs.size = size) (h1 : ∀ u ∈ cs.toList, u.oneCell' = true)
    (hbytes : (n + 1) * bytes ≤ 140737488355328) (hbase : base ≤ W.heap.size)
    (h : ∀ v' w', w'.ownsRow base e size v' (n + 1) (xs ++ cs.toList) → Below base W w' → W.grownBy w' v.ownBlock → wpList P ops Q rest (a.put o.dst v') w') :
    wpList P ops Q (o :: rest) a (W.alloc (.cells cs T)) := by
  obtain ⟨i, hi, hz, hsize, hby, hzs, hsz, hbp⟩ := hE
  have h63 : n + 1 ≤ 140737488355328 := Nat.le_trans (Nat.le_mul_of_pos_right _ hbp) hbytes
  refine wpList_append_own _ hgd s x t ho base e i z size bytes ht hi hz hsize hby hzs hsz v n xs hs (hown.alloc _) ⟨W.heap.size, 0, none⟩ 1 C cs.toList hx (by simp [hcs]) ?_ h1 (by unfold maxLen; omega) hbytes (by simp; omega) ?_
  · intro j u hu
    have hadd : (⟨W.heap.size, 0, none⟩ : Addr).add j = ⟨W.heap.size, j, none⟩ := by unfold Addr.add; split <;> simp_all
    rw [hadd]
    have hb := heap_alloc_new W (.cells cs T)
    simp only [World.cell?, hb]
    simpa using hu
  · intro v' w' hown' hg _
    refine h v' w' hown' ?_ ?_
    · exact ((Below.refl _ _).alloc hbase _).grown hg (by simp; omega) fun k hk => (hown.lt k hk).1
    · exact ⟨hg.os, hg.tape, hg.output, by have := hg.size; simp at this; omega, fun k hk hne => (hg.block k (by simp; omega) hne).trans (Below.heap_alloc W _ k hk)⟩

theorem Ints.take {kd : IntKind} {w : World} {a : Option Addr} {c k n : Nat} {l : List Int} (h : Ints kd w (.slice a n c) l) (hk : k ≤ l.length) : n = l.length ∧ Ints kd w (.slice a k c) (l.take k) := by
  obtain ⟨a', c', e, h1, h2, h3, h⟩ := h
  injection e with e1 e2 e3
  subst e1 e2 e3
  have hl : (l.take k).length = k := by simp; omega
  refine ⟨rfl, a, c, by rw [hl], by omega, h2, by omega, fun i x hi => h i x ?_⟩
  rw [List.getElem?_take] at hi
  split at hi
  · exact hi
  · cases hi

/-- Behind a call that makes memory: all old cells and marks read as before. -/
theorem bcell {W w1 : World} (hb : Below W.heap.size W w1) : (∀ b o, b < W.heap.size → w1.cell? ⟨b, o, none⟩ = W.cell? ⟨b, o, none⟩) ∧ (∀ b o, b < W.heap.size → w1.frozen? ⟨b, o, none⟩ = W.frozen? ⟨b, o, none⟩) :=
  ⟨fun b o h => hb.cell (p := ⟨b, o, none⟩) h, fun b o h => hb.frozen (p := ⟨b, o, none⟩) h⟩

theorem getElem?_ex {α : Type} {l : List α} {k : Nat} (h : k < l.length) : ∃ x, l[k]? = some x := ⟨_, List.getElem?_eq_getElem h⟩

theorem take_snoc' {α : Type} {l : List α} {k : Nat} {x : α} (h : l[k]? = some x) : l.take (k + 1) = l.take k ++ [x] := by
  rw [List.take_add_one, h]; rfl

theorem take_step {la lb : List Int} {k : Nat} {x : Int} (ha : la[k]? = some x) (hb : lb[k]? = some x) (h : la.take k = lb.take k) : la.take (k + 1) = lb.take (k + 1) := by
  rw [take_snoc' ha, take_snoc' hb, h]

theorem ret_bool {a b : Bool} (h : a = b) : Ending.returned (.bool a) = .returned (.bool b) := by rw [h]
theorem ret_int {k : IntKind} {a b : Int} (h : a = b) : Ending.returned (.int k a) = .returned (.int k b) := by rw [h]

theorem mkfull {P : Program} {w : World} {ops : Array Oper} {rest : List Oper} {o : Oper} {a : Act} {Q : Exit → Act → World → Prop}
    (hg : o.guard = none) (l c : Operand) (t : TypeId) (hop : o.op = Op.makeSlice t l c) {e : TypeId} {z : Value} {size bytes : Nat} (ht : P.underlying t = some (.slice e)) (hE : EI P e z size bytes)
    (base : Nat) (n : Nat) {kl kc : IntKind} {L C : Int} (hl : a.eval l = .int kl L) (hc : a.eval c = .int kc C) (hL : L = (n : Int)) (hC : C = (n : Int)) (b2 : bytes * n ≤ 140737488355328) (hbase : base ≤ w.heap.size)
    (hK : ∀ w', w'.ownsRow base e size (.slice (some ⟨w.heap.size, 0, none⟩) n n) n (madeCells z.cells (n * size)).toList → Below base w w' → w.grownBy w' none → wpList P ops Q rest (a.put o.dst (.slice (some ⟨w.heap.size, 0, none⟩) n n)) w') :
    wpList P ops Q (o :: rest) a w := by
  obtain ⟨i, hi, hz, hsize, hby, hzs, hsz, hbp⟩ := hE
  have h63 : n ≤ 140737488355328 := Nat.le_trans (Nat.le_mul_of_pos_left _ hbp) b2
  exact wpList_make_full w hg l c t hop base e i z size ht hi hz hsize kl kc L C n hl hc hL hC (by rw [hby]; omega) (by unfold maxLen; omega) hbase fun w' h1 h2 => hK w' h1 ((Below.refl _ _).grown h2 hbase (by simp)) h2

theorem mkown {P : Program} {w : World} {ops : Array Oper} {rest : List Oper} {o : Oper} {a : Act} {Q : Exit → Act → World → Prop}
    (hg : o.guard = none) (l c : Operand) (t : TypeId) (hop : o.op = Op.makeSlice t l c) {e : TypeId} {z : Value} {size bytes : Nat} (ht : P.underlying t = some (.slice e)) (hE : EI P e z size bytes)
    (base : Nat) (n : Nat) {kl kc : IntKind} {C : Int} (hl : a.eval l = .int kl 0) (hc : a.eval c = .int kc C) (hC : C = (n : Int)) (b2 : bytes * n ≤ 140737488355328) (hbase : base ≤ w.heap.size)
    (hK : ∀ w', w'.ownsRow base e size (.slice (some ⟨w.heap.size, 0, none⟩) 0 n) 0 [] → Below base w w' → w.grownBy w' none → wpList P ops Q rest (a.put o.dst (.slice (some ⟨w.heap.size, 0, none⟩) 0 n)) w') :
    wpList P ops Q (o :: rest) a w := by
  obtain ⟨i, hi, hz, hsize, hby, hzs, hsz, hbp⟩ := hE
  have h63 : n ≤ 140737488355328 := Nat.le_trans (Nat.le_mul_of_pos_left _ hbp) b2
  exact wpList_make_own w hg l c t hop base e i z size ht hi hz hsize kl kc C n hl hc hC (by rw [hby]; omega) (by unfold maxLen; omega) hbase fun w' h1 h2 => hK w' h1 ((Below.refl _ _).grown h2 hbase (by simp)) h2

theorem made_ints (k : IntKind) (n : Nat) : (madeCells (Value.cells (.int k 0)) (n * 1)).toList = (List.replicate n (0 : Int)).map (Value.int k) := by
  apply List.ext_getElem
  · simp [madeCells]
  · intro i h1 h2
    simp [madeCells, Value.cells, Nat.mod_one]

theorem eiInt : EI Try.prog 3 (.int .i64 0) 1 8 := .of (by kernel_rfl) rfl (by decide) (by decide)
end Go.Proofs.Ytoljilbldkbjpaa
