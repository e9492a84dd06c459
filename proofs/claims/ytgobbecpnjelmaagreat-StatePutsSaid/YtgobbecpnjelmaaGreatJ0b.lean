/-
  BinT: Walk of copselaw21.ask: a reader is asked, both ways.
  ItemP: Plain laws of layer 22: what is read, and the bytes of scores, asks, ways to work, events.
  PairM: Slices of pairs of integers (scores, ratios): how they lie; append of a whole one.
  Digs: Plain laws on digits of base 65536.
  RefBig: Walks of copseref01's large numbers.
  Digs2: More plain laws on digits: differences, products, order.
  RefBig2: Walks of copseref01's large numbers, continued: differences, order.
  RefWhole: Walks of copseref01's whole numbers with a sign.
  RefTimes: Walks of copseref01: products.
  RefFits: Walks of copseref01: whole numbers back to numbers; sums, differences, products.
  RefTurn: Walks of copseref01: whole numbers turned, and multiplied.
  RefCalc: Walks of copseref01: sums, differences, products of numbers.
  RefDiv: Walks of copseref01: quotients, the greatest divisor, doublings.
  ScoreA: Walks of score.Is, score.odder, score.Cmp and of the reference's Is and Odder.
  App1: Append of one element at a step of a region that draws its order.
  App2: Append of a whole list of integers at a step of a region that draws its order.
  ItemA: Walks of item.nats, item.PutScore and of the reference's Score.
  Lex: A drawn region, walked by hand: what only reads is taken first, an operation that is not wanted is passed by, what makes memory comes up one by one.
  TreeP: Plain laws of trees: which nodes are a tree, the way of a vector, the leaves.
  VecA: Walks of package vec (Is, Parts, Dot) and of copseref08: vectors and the parts of planes.
  RowM: Rows of the call's own: their cells, overwritten, copied, cut and grown.
  OwnO: Own rows over changes of other blocks; which blocks have changed; make with room; append and clear in a region.
  MemT: How trees lie in memory.
  OwnT: Rows of the call's own: of integers, of nodes; append to them.
  VecB: Walks of package vec (ends, Parts, Dot).
  VecC: Walks: the product of parts and a vector (vec.Dot, copseref08.Dot), copseref08.Is, copseref08.Parts.
  CutA: Walks: cut.Is, cut.Left, copseref09.Is, copseref09.Left, tree.leaf: what is right of a cut, and where a vector goes by it.
  Tail: A region that draws its order: the operations that only read first, in the text's order, then the forced tail.
  HarmA: Walks of package harm and of copseref05: the average of a number of points.
-/
import Derived.Test.YtgobbecpnjelmaaGreatJ0a
import Derived.Lib.ItoaNum
import Derived.Deep.RegionHeld3
import Derived.Deep.DeepCutAuto
import Derived.Deep.CutBlock
import Derived.Lib.Overlaps
import Derived.Laws.Externs
import Derived.Laws.IdiomCopy
import Derived.Lib.AppendZeros
import Derived.Deep.AppendSrc
import Derived.Laws.OwnMore
import Derived.StillTailTactics
import Derived.Deep.Quiet
namespace Go.Proofs.YtgobbecpnjelmaaGreat
open Go.RowKit

theorem RdTo.refl {w : World} {R : Nat} {v : Value} {l : List Int} {a : Nat} {e : Int} (h : Rd w R v l a e) : RdTo w R v l w a e := ⟨h, only_refl _ _⟩

theorem readN_all {w : World} {R : Nat} {v : Value} {l : List Int} {a : Nat} {e0 : Int} (h : Rd w R v l a e0) (hb : AllB l) (ha : a ≤ l.length) (hl : l.length ≤ 100000) (most : Int) (hm : Ok64 most) :
  Calls Tryz.prog 61 #[.pointer (some ⟨R, 0, none⟩), .int .i64 most] w fun e w' => e = .returned (.int .i64 (rdN' l a e0 most).1) ∧ RdTo w R v l w' (rdN' l a e0 most).2.1 (rdN' l a e0 most).2.2 := by
 by_cases he : e0 = 0
 ·subst he; rw [rdN', if_pos rfl]; exact readN_any h hb ha hl most hm
 ·rw [rdN', if_neg he]; exact (readN_dead h he most).mono fun e w' ⟨h1, h2⟩ => ⟨h1, h2 ▸ RdTo.refl h⟩

theorem readI_all {w : World} {R : Nat} {v : Value} {l : List Int} {a : Nat} {e0 : Int} (h : Rd w R v l a e0) (hb : AllB l) (ha : a ≤ l.length) (hl : l.length ≤ 100000) :
  Calls Tryz.prog 104 #[.pointer (some ⟨R, 0, none⟩)] w fun e w' => e = .returned (.int .i64 (rdI' l a e0).1) ∧ RdTo w R v l w' (rdI' l a e0).2.1 (rdI' l a e0).2.2 := by
 by_cases he : e0 = 0
 ·subst he; rw [rdI', if_pos rfl]; exact readI_any h hb ha hl
 ·rw [rdI', if_neg he]; exact (readI_dead h he).mono fun e w' ⟨h1, h2⟩ => ⟨h1, h2 ▸ RdTo.refl h⟩

theorem Ints.only_fresh {k : IntKind} {w w' : World} {R B : Nat} {v : Value} {l : List Int} (h : Ints k w v l) (hf : Fresh B v) (hR : R < B) (hg : w.grownBy w' (some R)) : Ints k w' v l := by
 obtain ⟨ad, c, rfl, h1, h2, h3, h4⟩ := h
 refine ⟨ad, c, rfl, h1, h2, h3, fun i x hx => ?_⟩
 obtain ⟨b, o, rfl, hlt, hc⟩ := h4 i x hx
 have hB : B ≤ b := hf ⟨b, o, none⟩ _ _ rfl (by have := (List.getElem?_eq_some_iff.1 hx).1; omega)
 refine ⟨b, o, rfl, Nat.lt_of_lt_of_le hlt hg.size, ?_⟩
 exact (World.cell?_of_block (w := w) (a := ⟨b, o + i, none⟩) (hg.block b hlt (by simp; omega))).trans hc

theorem only_cell {w w' : World} {R : Nat} (hg : w.grownBy w' (some R)) (b o : Nat) (hb : b < w.heap.size) (hne : R ≠ b) : w'.cell? ⟨b, o, none⟩ = w.cell? ⟨b, o, none⟩ :=
 World.cell?_of_block (w := w) (a := ⟨b, o, none⟩) (hg.block b hb (by simp; omega))

theorem only_frozen {w w' : World} {R : Nat} (hg : w.grownBy w' (some R)) (b o : Nat) (hb : b < w.heap.size) (hne : R ≠ b) : w'.frozen? ⟨b, o, none⟩ = w.frozen? ⟨b, o, none⟩ := by
 have := hg.block b hb (by simp; omega)
 simp only [World.frozen?, this]

theorem RdTo.from {w w1 w2 : World} {R : Nat} {v : Value} {l : List Int} {a : Nat} {e : Int} (hb : Below w.heap.size w w1) (h : RdTo w1 R v l w2 a e) : RdTo w R v l w2 a e :=
 ⟨h.1, only_trans (only_below hb) h.2⟩

end Go.Proofs.YtgobbecpnjelmaaGreat

namespace Go.Proofs.YtgobbecpnjelmaaGreat
open Go.RowKit

/-- How a reader ends, if what it read must be right. -/
def finE (e : Int) (right : Bool) : Int := if e = 0 then (if right then 0 else 211) else e

def scoreBytes (s : Int × Int) : List Int := if scoreB s = true then putsU s.1.toNat ++ putsU s.2.toNat else []

def gS (l : List Int) (a : Nat) (e : Int) : (Int × Int) × Nat × Int := ((((rdN' l a e 274877906944).1 : Int), ((rdN' l (rdN' l a e 274877906944).2.1 (rdN' l a e 274877906944).2.2 1099511627776).1 : Int)), (rdN' l (rdN' l a e 274877906944).2.1 (rdN' l a e 274877906944).2.2 1099511627776).2)

def getSE (l : List Int) (a : Nat) (e : Int) : Int := finE (gS l a e).2.2 (scoreB (gS l a e).1)

def getSV (l : List Int) (a : Nat) (e : Int) : Int × Int := if getSE l a e = 0 then (gS l a e).1 else (0, 0)

end Go.Proofs.YtgobbecpnjelmaaGreat

namespace Go.Proofs.YtgobbecpnjelmaaGreat
open Go.RowKit

/-- v is a slice of pairs of integers. -/
def PairsR (w : World) (v : Value) (l : List (Int × Int)) : Prop :=
 ∃ a c, v = .slice a l.length c ∧ l.length ≤ c ∧ c ≤ 9223372036854775807 ∧ l.length ≤ 140737488351232 ∧ ∀ (i : Nat) (p : Int × Int), l[i]? = some p →
  ∃ b o, a = some ⟨b, o, none⟩ ∧ b < w.heap.size ∧ w.cell? ⟨b, o + i * 2, none⟩ = some (.int .i64 p.1) ∧ w.cell? ⟨b, o + i * 2 + 1, none⟩ = some (.int .i64 p.2)

theorem PairsR.shape {w : World} {v : Value} {l : List (Int × Int)} (h : PairsR w v l) : ∃ a c, v = .slice a l.length c := by
 obtain ⟨a, c, e, _⟩ := h
 exact ⟨a, c, e⟩

theorem PairsR.below {w w' : World} {v : Value} {l : List (Int × Int)} (h : PairsR w v l) (B : Below w.heap.size w w') : PairsR w' v l := by
 obtain ⟨a, c, e, h1, h2, h3, h⟩ := h
 refine ⟨a, c, e, h1, h2, h3, fun i p hi => ?_⟩
 obtain ⟨b, o, e, hb, c0, c1⟩ := h i p hi
 exact ⟨b, o, e, Nat.lt_of_lt_of_le hb B.size, (B.cell (p := ⟨b, _, none⟩) hb).trans c0, (B.cell (p := ⟨b, _, none⟩) hb).trans c1⟩

theorem PairsR.drewN {w : World} {v : Value} {l : List (Int × Int)} (h : PairsR w v l) (n : Nat) : PairsR (w.drewN n) v l := h.below (below_drewN (Below.refl _ _) n)

theorem pairs_nil (w : World) (a : Option Addr) (c : Nat) (hc : c ≤ 9223372036854775807) : PairsR w (.slice a 0 c) [] :=
 ⟨a, c, rfl, Nat.zero_le _, hc, by simp, fun i p hi => by simp at hi⟩

theorem PairsR.at {w : World} {b o n c : Nat} {l : List (Int × Int)} (h : PairsR w (.slice (some ⟨b, o, none⟩) n c) l) {i : Nat} {p : Int × Int} (hi : l[i]? = some p) :
  b < w.heap.size ∧ w.cell? ⟨b, o + i * 2, none⟩ = some (.int .i64 p.1) ∧ w.cell? ⟨b, o + i * 2 + 1, none⟩ = some (.int .i64 p.2) := by
 obtain ⟨a, c', e, _, _, _, g⟩ := h
 injection e with e1 e2 e3
 subst e1
 obtain ⟨b', o', e, hb, c0, c1⟩ := g i p hi
 injection e with e
 injection e with e1 e2
 subst e1 e2
 exact ⟨hb, c0, c1⟩

/-- A slice that holds something has an address. -/
theorem PairsR.addr {w : World} {a : Option Addr} {n c : Nat} {l : List (Int × Int)} (h : PairsR w (.slice a n c) l) (hl : 0 < l.length) : ∃ b o, a = some ⟨b, o, none⟩ := by
 obtain ⟨p, hp⟩ := getElem?_ex hl
 obtain ⟨_, _, e, _, _, _, g⟩ := h
 injection e with e1 e2 e3
 subst e1
 obtain ⟨b, o, e, _⟩ := g 0 p hp
 exact ⟨b, o, e⟩

/-- A part of a slice of pairs. -/
theorem PairsR.cutAt {w : World} {b o n c : Nat} {l : List (Int × Int)} (h : PairsR w (.slice (some ⟨b, o, none⟩) n c) l) {i m : Nat} (hi : i + m ≤ l.length) {o' : Nat} (ho : o' = o + i * 2) (c' : Nat) (hc : m ≤ c') (hc2 : c' ≤ 9223372036854775807) :
  PairsR w (.slice (some ⟨b, o', none⟩) m c') ((l.drop i).take m) := by
 subst ho
 have hl : ((l.drop i).take m).length = m := by rw [List.length_take, List.length_drop]; omega
 have h3 : l.length ≤ 140737488351232 := by obtain ⟨_, _, _, _, _, h3, _⟩ := h; exact h3
 refine ⟨_, c', by rw [hl], by omega, hc2, by omega, fun j p hj => ?_⟩
 have hjm : j < m := by rw [← hl]; exact (List.getElem?_eq_some_iff.1 hj).1
 rw [List.getElem?_take, if_pos hjm, List.getElem?_drop] at hj
 obtain ⟨g1, g2, g3⟩ := h.at hj
 rw [show (i + j) * 2 = i * 2 + j * 2 by omega, ← Nat.add_assoc] at g2 g3
 exact ⟨b, o + i * 2, rfl, g1, g2, g3⟩

end Go.Proofs.YtgobbecpnjelmaaGreat

namespace Go.Proofs.YtgobbecpnjelmaaGreat
open Go.RowKit

def digsF : Nat → Nat → List Int
 | 0, _ => []
 | f + 1, n => if n = 0 then [] else ((n % 65536 : Nat) : Int) :: digsF f (n / 65536)

def digs (n : Nat) : List Int := digsF n n

theorem digsF_eq : ∀ (f g n : Nat), n ≤ f → n ≤ g → digsF f n = digsF g n := by
  intro f
  induction f with
  | zero => intro g n h _; have : n = 0 := by omega
            subst this; cases g <;> simp [digsF]
  | succ f ih =>
    intro g n h h'
    cases g with
    | zero => have : n = 0 := by omega
              subst this; simp [digsF]
    | succ g =>
      simp only [digsF]
      split
      · rfl
      · rw [ih g (n / 65536) (by omega) (by omega)]

theorem digs_zero : digs 0 = [] := rfl

theorem digs_pos {n : Nat} (h : 0 < n) : digs n = ((n % 65536 : Nat) : Int) :: digs (n / 65536) := by
 obtain ⟨f, rfl⟩ : ∃ f, n = f + 1 := ⟨n - 1, by omega⟩
 show digsF (f + 1) (f + 1) = _
 simp only [digsF]
 rw [if_neg (by omega)]
 unfold digs
 rw [digsF_eq f ((f + 1) / 65536) _ (by omega) (Nat.le_refl _)]

/-- The number of some digits. -/
def bv : List Int → Nat
 | [] => 0
 | d :: l => d.toNat + 65536 * bv l

def Dig (l : List Int) : Prop := ∀ d ∈ l, 0 ≤ d ∧ d ≤ 65535

theorem digs_dig (n : Nat) : Dig (digs n) := by
 induction n using Nat.strongRecOn with
 | _ n ih =>
  rcases Nat.eq_zero_or_pos n with h | h
  ·subst h; intro d hd; simp [digs_zero] at hd
  ·rw [digs_pos h]
   intro d hd
   rcases List.mem_cons.1 hd with h1 | h1
   ·subst h1; omega
   ·exact ih _ (by omega) d h1

theorem bv_digs (n : Nat) : bv (digs n) = n := by
 induction n using Nat.strongRecOn with
 | _ n ih =>
  rcases Nat.eq_zero_or_pos n with h | h
  ·subst h; rfl
  ·rw [digs_pos h]
   simp only [bv, ih (n / 65536) (by omega)]
   omega

/-- Digits with nothing at the top. -/
def Canon : List Int → Prop
 | [] => True
 | [d] => 0 < d
 | _ :: l => Canon l

theorem canon_cons {d : Int} {l : List Int} (h : l ≠ []) (hc : Canon l) : Canon (d :: l) := by
 cases l with
 | nil => exact absurd rfl h
 | cons e l => exact hc

theorem canon_digs (n : Nat) : Canon (digs n) := by
 induction n using Nat.strongRecOn with
 | _ n ih =>
  rcases Nat.eq_zero_or_pos n with h | h
  ·subst h; trivial
  ·rw [digs_pos h]
   rcases Nat.eq_zero_or_pos (n / 65536) with h1 | h1
   ·rw [h1, digs_zero]; show 0 < _; omega
   ·exact canon_cons (by rw [digs_pos h1]; simp) (ih _ (by omega))

theorem canon_pos {l : List Int} (h : Canon l) (hd : Dig l) (hne : l ≠ []) : 0 < bv l := by
 induction l with
 | nil => exact absurd rfl hne
 | cons d l ih =>
  have hd0 := hd d (by simp)
  cases l with
  | nil => simp only [bv]; have : 0 < d := h; omega
  | cons e l =>
   have := ih h (fun x hx => hd x (by simp [hx])) (by simp)
   simp only [bv] at this ⊢; omega

theorem digs_of_canon {l : List Int} (h : Canon l) (hd : Dig l) : l = digs (bv l) := by
 induction l with
 | nil => rfl
 | cons d l ih =>
  have hd0 := hd d (by simp)
  have hdl : Dig l := fun x hx => hd x (by simp [hx])
  have hp := canon_pos h hd (by simp)
  have hcl : Canon l := by cases l with
   | nil => trivial
   | cons e l => exact h
  rw [digs_pos hp]
  simp only [bv]
  have e1 : (d.toNat + 65536 * bv l) % 65536 = d.toNat := by omega
  have e2 : (d.toNat + 65536 * bv l) / 65536 = bv l := by omega
  rw [e1, e2, ← ih hcl hdl]
  congr 1
  omega

def trimL (l : List Int) : List Int := (l.reverse.dropWhile (· == 0)).reverse

theorem trimL_snoc_zero (l : List Int) : trimL (l ++ [0]) = trimL l := by simp [trimL]

theorem trimL_snoc_pos (l : List Int) {d : Int} (h : d ≠ 0) : trimL (l ++ [d]) = l ++ [d] := by simp [trimL, h]

theorem bv_append (l m : List Int) : bv (l ++ m) = bv l + 65536 ^ l.length * bv m := by
 induction l with
 | nil => simp [bv]
 | cons d l ih => simp only [List.cons_append, bv, ih, List.length_cons, Nat.pow_succ]; rw [Nat.mul_add, ← Nat.mul_assoc, Nat.mul_comm 65536 (65536 ^ l.length), Nat.add_assoc]

theorem snoc_cases (l : List Int) : l = [] ∨ ∃ m d, l = m ++ [d] := by
 rcases List.eq_nil_or_concat l with h | ⟨m, d, h⟩
 ·exact .inl h
 ·exact .inr ⟨m, d, by simpa using h⟩

theorem canon_snoc (l : List Int) {d : Int} (h : 0 < d) : Canon (l ++ [d]) := by
 induction l with
 | nil => exact h
 | cons e l ih => exact canon_cons (by simp) ih

theorem trimL_spec : ∀ (n : Nat) (l : List Int), l.length = n → Dig l → Canon (trimL l) ∧ Dig (trimL l) ∧ bv (trimL l) = bv l := by
  intro n
  induction n with
  | zero => intro l h _; have : l = [] := List.eq_nil_of_length_eq_zero h
            subst this; exact ⟨trivial, fun d hd => by simp [trimL] at hd, rfl⟩
  | succ n ih =>
    intro l h hd
    rcases snoc_cases l with rfl | ⟨m, d, rfl⟩
    · simp at h
    · by_cases h0 : d = 0
      · subst h0
        rw [trimL_snoc_zero]
        obtain ⟨h1, h2, h3⟩ := ih m (by simpa using h) (fun x hx => hd x (by simp [hx]))
        exact ⟨h1, h2, by rw [h3, bv_append]; simp [bv]⟩
      · rw [trimL_snoc_pos m h0]
        have := hd d (by simp)
        exact ⟨canon_snoc m (by omega), hd, rfl⟩

theorem trimL_digs {l : List Int} (hd : Dig l) : trimL l = digs (bv l) := by
 obtain ⟨h1, h2, h3⟩ := trimL_spec l.length l rfl hd
 rw [digs_of_canon h1 h2, h3]

/-- Two rows of digits together, with what is carried. -/
def addL : List Int → List Int → Int → List Int
 | [], [], c => if 0 < c then [c % 65536] else []
 | a :: xs, [], c => (a + c) % 65536 :: addL xs [] ((a + c) / 65536)
 | [], b :: ys, c => (b + c) % 65536 :: addL [] ys ((b + c) / 65536)
 | a :: xs, b :: ys, c => (a + b + c) % 65536 :: addL xs ys ((a + b + c) / 65536)

theorem addL_dig (xs ys : List Int) (c : Int) (ha : Dig xs) (hb : Dig ys) (hc : 0 ≤ c ∧ c ≤ 1) : Dig (addL xs ys c) ∧ bv (addL xs ys c) = bv xs + bv ys + c.toNat := by
 fun_induction addL xs ys c with
 | case1 c h => exact ⟨fun d hd => by simp at hd; subst hd; omega, by simp [bv]; omega⟩
 | case2 c h => exact ⟨fun d hd => by simp at hd, by simp [bv]; omega⟩
 | case3 a xs c ih =>
  have h0 := ha a (by simp)
  obtain ⟨h1, h2⟩ := ih (fun d hd => ha d (by simp [hd])) hb ⟨by omega, by omega⟩
  refine ⟨fun d hd => ?_, by simp only [bv, h2]; omega⟩
  rcases List.mem_cons.1 hd with h | h
  ·subst h; omega
  ·exact h1 d h
 | case4 b ys c ih =>
  have h0 := hb b (by simp)
  obtain ⟨h1, h2⟩ := ih ha (fun d hd => hb d (by simp [hd])) ⟨by omega, by omega⟩
  refine ⟨fun d hd => ?_, by simp only [bv, h2]; omega⟩
  rcases List.mem_cons.1 hd with h | h
  ·subst h; omega
  ·exact h1 d h
 | case5 a xs b ys c ih =>
  have h0 := ha a (by simp)
  have h0' := hb b (by simp)
  obtain ⟨h1, h2⟩ := ih (fun d hd => ha d (by simp [hd])) (fun d hd => hb d (by simp [hd])) ⟨by omega, by omega⟩
  refine ⟨fun d hd => ?_, by simp only [bv, h2]; omega⟩
  rcases List.mem_cons.1 hd with h | h
  ·subst h; omega
  ·exact h1 d h

theorem addL_digs (m n : Nat) : trimL (addL (digs m) (digs n) 0) = digs (m + n) := by
 obtain ⟨h1, h2⟩ := addL_dig (digs m) (digs n) 0 (digs_dig m) (digs_dig n) (by omega)
 rw [trimL_digs h1, h2, bv_digs, bv_digs]; rfl
end Go.Proofs.YtgobbecpnjelmaaGreat

namespace Go.Proofs.YtgobbecpnjelmaaGreat
open Go.RowKit

def BigR (w : World) (e : Ending) (w' : World) (n : Nat) : Prop := ∃ v, e = .returned v ∧ Ints .i64 w' v (digs n) ∧ Fresh w.heap.size v ∧ Below w.heap.size w w'

theorem digs_len (n : Nat) : ∀ k, n < 65536 ^ k → (digs n).length ≤ k := by
 induction n using Nat.strongRecOn with
 | _ n ih =>
  intro k hk
  rcases Nat.eq_zero_or_pos n with h | h
  ·subst h; simp [digs_zero]
  ·rw [digs_pos h]
   cases k with
   | zero => simp at hk; omega
   | succ k =>
    have := ih (n / 65536) (by omega) k (by rw [Nat.pow_succ] at hk; omega)
    simp; omega

set_option maxRecDepth 100000 in
set_option maxHeartbeats 400000 in
theorem of_any (n : Nat) (w : World) (hn : n < 18446744073709551616) :
  Calls Tryz.prog 164 #[.int .u64 n] w fun e w' => BigR w e w' n := by
 have HN := hH hn; clear hn
 go_enter Tryz.func164, Tryz.ntmps164
 go_wp2
 go_loopw [0, 3] (fun m v wr => ∃ (k : Nat) (l : List Int), m = .int .u64 k ∧ k ≤ n ∧ wr.ownsRow w.heap.size 3 1 v l.length (l.map (.int .i64)) ∧ digs n = l ++ digs k ∧ Below w.heap.size w wr) (fun m _ _ => (intOf m).toNat)
 case atStart => exact ⟨n, [], rfl, Nat.le_refl _, World.ownsRow_nil _ _ _ _, rfl, Below.refl _ _⟩
 case round =>
  obtain ⟨k, l, rfl, hk, hown, hl, hb⟩ := hrel
  have HL := hH hl; clear hl
  have hlen : l.length ≤ 4 := by
   have := digs_len n 4 (by simpa using HN.out)
   rw [HL.out, List.length_append] at this; omega
  have hk64 : k < 18446744073709551616 := Nat.lt_of_le_of_lt hk HN.out
  by_cases h0 : 0 < k
  ·go_wp2_with (at_builtin; go_must (refine app1 rfl _ _ 177 rfl Tryz.underlying177 eiInt w.heap.size (by rfl) hown (by rfl) rfl (by simp [Value.oneCell']) (by omega) hb.size ?_))
   intro v' w' hown' hb' _
   go_wp2
   go_roundw
   case rel => 
    refine ⟨k / 65536, l ++ [((k % 65536 : Nat) : Int)], by go_num, by omega, ?_, ?_, hb.trans hb'⟩
    ·simpa using hown'
    ·rw [HL.out, digs_pos h0]; simp
   case measure => simp [intOf] <;> omega
  ·go_wp2
   go_ret
   obtain rfl : k = 0 := by omega
   obtain ⟨h1, h2⟩ := Ints.own hown (by omega)
   exact ⟨_, rfl, by rw [HL.out, digs_zero, List.append_nil]; exact h2, Fresh.own hown, hb⟩

set_option maxHeartbeats 400000 in
theorem digit_any (v : Value) (l : List Int) (i : Nat) (w : World) (h : Ints .i64 w v l) :
  Calls Tryz.prog 168 #[v, .int .i64 i] w fun e w' => e = .returned (.int .i64 (l.getD i 0)) ∧ w = w' := by
 obtain ⟨a, c, rfl, _, _, h3, h⟩ := h
 have H := hH h; clear h
 by_cases hi : i < l.length
 ·obtain ⟨x, hx⟩ := getElem?_ex hi
  obtain ⟨b1, o1, rfl, hb1, hc1⟩ := H.out i x hx
  have HX := hH hx; clear hx
  go_enter Tryz.func168, Tryz.ntmps168
  go_wp2
  go_ret
  refine ⟨ret_int ?_, rfl⟩
  simp [HX.out]
 ·have : l.length ≤ i := by omega
  go_enter Tryz.func168, Tryz.ntmps168
  go_wp2
  go_ret
  refine ⟨ret_int ?_, rfl⟩
  simp [List.getElem?_eq_none this]

set_option maxHeartbeats 400000 in
theorem trim_any (v : Value) (l : List Int) (w : World) (h : Ints .i64 w v l) :
  Calls Tryz.prog 169 #[v] w fun e w' => ∃ v', e = .returned v' ∧ Ints .i64 w v' (trimL l) ∧ (∀ B, Fresh B v → Fresh B v') ∧ w = w' := by
 obtain ⟨a, c, rfl, h1, h2, h3, h⟩ := h
 have H := hH h; clear h
 go_enter Tryz.func169, Tryz.ntmps169
 go_wp2
 go_loop [3] (fun i => ∃ k : Nat, k ≤ l.length ∧ i = .int .i64 k ∧ trimL l = trimL (l.take k)) (fun i => (intOf i).toNat)
 case atStart => exact ⟨l.length, Nat.le_refl _, rfl, by simp⟩
 case round =>
  obtain ⟨k, hk, rfl, ht⟩ := hrel
  have HT := hH ht; clear ht
  by_cases h0 : 0 < k
  ·obtain ⟨j, hj⟩ : ∃ j, k = j + 1 := ⟨k - 1, by omega⟩
   subst hj
   have hjl : j < l.length := by omega
   obtain ⟨x, hx⟩ := getElem?_ex hjl
   obtain ⟨b1, o1, rfl, hb1, hc1⟩ := H.out j x hx
   have HX := hH hx; clear hx
   have e1 : ((j + 1 : Nat) : Int) - 1 = j := by omega
   have E1 := hH e1; clear e1
   by_cases hx0 : x = 0
   ·have hxb : (x == 0) = true := by simp [hx0]
    have HX0 := hH hx0; clear hx0
    go_wp2
    go_round
    case rel => exact ⟨j, by omega, rfl, by rw [HT.out, take_snoc' HX.out, HX0.out, trimL_snoc_zero]⟩
    case measure => simp [intOf] <;> omega
   ·have hxb : (x == 0) = false := by simp [hx0]
    go_wp2
    go_ret
    refine ⟨_, rfl, ?_, fun B hB => hB.cut (by omega), rfl⟩
    have e : trimL l = l.take (j + 1) := by rw [HT.out, take_snoc' HX.out, trimL_snoc_pos _ hx0]
    rw [e]
    exact (Ints.take (l := l) (k := j + 1) ⟨_, _, rfl, h1, h2, h3, H.out⟩ (by omega)).2
  ·obtain rfl : k = 0 := by omega
   go_wp2
   go_ret
   refine ⟨_, rfl, ?_, fun B hB => hB.cut (by omega), rfl⟩
   have e : trimL l = l.take 0 := by rw [HT.out]; simp [trimL]
   rw [e]
   exact (Ints.take (l := l) (k := 0) ⟨_, _, rfl, h1, h2, h3, H.out⟩ (by omega)).2

theorem drop_getD {l : List Int} {k : Nat} (h : k < l.length) : l.drop k = l.getD k 0 :: l.drop (k + 1) := by
 rw [List.drop_eq_getElem_cons h]; simp [List.getElem?_eq_getElem h]

theorem addL_step {la lb : List Int} {k : Nat} {c : Int} (hc : 0 ≤ c ∧ c ≤ 1) (h : k < la.length ∨ k < lb.length ∨ 0 < c) :
  addL (la.drop k) (lb.drop k) c = (la.getD k 0 + lb.getD k 0 + c) % 65536 :: addL (la.drop (k + 1)) (lb.drop (k + 1)) ((la.getD k 0 + lb.getD k 0 + c) / 65536) := by
 by_cases h1 : k < la.length
 ·rw [drop_getD h1]
  by_cases h2 : k < lb.length
  ·rw [drop_getD h2]; simp only [addL]
  ·rw [List.drop_of_length_le (l := lb) (i := k) (by omega), List.drop_of_length_le (l := lb) (i := k + 1) (by omega)]
   have : lb.getD k 0 = 0 := by simp [List.getElem?_eq_none (Nat.le_of_not_lt h2)]
   rw [this]; simp only [addL, Int.add_zero]
 ·have e1 : la.getD k 0 = 0 := by simp [List.getElem?_eq_none (Nat.le_of_not_lt h1)]
  rw [List.drop_of_length_le (l := la) (i := k) (by omega), List.drop_of_length_le (l := la) (i := k + 1) (by omega), e1]
  by_cases h2 : k < lb.length
  ·rw [drop_getD h2]; simp only [addL, Int.zero_add]
  ·have e2 : lb.getD k 0 = 0 := by simp [List.getElem?_eq_none (Nat.le_of_not_lt h2)]
   rw [List.drop_of_length_le (l := lb) (i := k) (by omega), List.drop_of_length_le (l := lb) (i := k + 1) (by omega), e2]
   have hc1 : c = 1 := by omega
   subst hc1; simp [addL]

theorem addL_end {la lb : List Int} {k : Nat} {c : Int} (h1 : ¬ k < la.length) (h2 : ¬ k < lb.length) (h3 : ¬ 0 < c) : addL (la.drop k) (lb.drop k) c = [] := by
 rw [List.drop_of_length_le (l := la) (i := k) (by omega), List.drop_of_length_le (l := lb) (i := k) (by omega)]
 simp [addL, h3]

theorem dig_getD {l : List Int} (h : Dig l) (k : Nat) : 0 ≤ l.getD k 0 ∧ l.getD k 0 ≤ 65535 := by
 by_cases hk : k < l.length
 ·have := h _ (List.getElem_mem hk)
  simpa [List.getElem?_eq_getElem hk] using this
 ·simp [List.getElem?_eq_none (Nat.le_of_not_lt hk)]

theorem addL_len (xs ys : List Int) (c : Int) : (addL xs ys c).length ≤ xs.length + ys.length + 1 := by
 fun_induction addL xs ys c <;> simp_all <;> omega

set_option maxRecDepth 100000 in
set_option maxHeartbeats 800000 in
theorem plusL_any (va vb : Value) (la lb : List Int) (w : World) (ha : Ints .i64 w va la) (hb : Ints .i64 w vb lb) (da : Dig la) (db : Dig lb) (hla : la.length + lb.length ≤ 1000000) :
  Calls Tryz.prog 166 #[va, vb] w fun e w' => ∃ v, e = .returned v ∧ Ints .i64 w' v (trimL (addL la lb 0)) ∧ Fresh w.heap.size v ∧ Below w.heap.size w w' := by
 have ha0 := hH ha
 have hb0 := hH hb
 obtain ⟨aa, ca, rfl, _, _, h3, _⟩ := ha
 obtain ⟨ab, cb, rfl, _, _, h3', _⟩ := hb
 have hlen := addL_len la lb 0
 go_enter Tryz.func166, Tryz.ntmps166
 go_wp2
 go_loopw [5, 6, 7] (fun v c i wr => ∃ (k : Nat) (l : List Int) (cc : Int), i = .int .i64 k ∧ c = .int .i64 cc ∧ 0 ≤ cc ∧ cc ≤ 1 ∧ l.length = k ∧ wr.ownsRow w.heap.size 3 1 v l.length (l.map (.int .i64)) ∧ addL la lb 0 = l ++ addL (la.drop k) (lb.drop k) cc ∧ Below w.heap.size w wr) (fun _ _ i _ => (addL la lb 0).length - (intOf i).toNat)
 case atStart => exact ⟨0, [], 0, rfl, rfl, by omega, by omega, rfl, World.ownsRow_nil _ _ _ _, rfl, Below.refl _ _⟩
 case round =>
  obtain ⟨k, l, cc, rfl, rfl, hc0, hc1, hlk, hown, hl, hbl⟩ := hrel
  have hkk : k ≤ la.length + lb.length + 1 := by
   have := congrArg List.length hl; simp at this; omega
  have hll : l.length ≤ la.length + lb.length + 1 := by omega
  have HL := hH hl; clear hl
  have HK := hH hlk; clear hlk
  obtain ⟨x, hx⟩ : ∃ x, la.getD k 0 = x := ⟨_, rfl⟩
  obtain ⟨y, hy⟩ : ∃ y, lb.getD k 0 = y := ⟨_, rfl⟩
  have hxb := dig_getD da k
  have hyb := dig_getD db k
  rw [hx] at hxb; rw [hy] at hyb
  have HX := hH hx; clear hx
  have HY := hH hy; clear hy
  by_cases hg : k < la.length ∨ k < lb.length ∨ 0 < cc
  ·have hst := addL_step ⟨hc0, hc1⟩ hg
   rw [HX.out, HY.out] at hst
   have hkt : k < (addL la lb 0).length := by rw [HL.out, List.length_append, hst, HK.out]; simp
   have HS := hH hst; clear hst
   have hparts : k < la.length ∨ (la.length ≤ k ∧ k < lb.length) ∨ (la.length ≤ k ∧ lb.length ≤ k ∧ 0 < cc) := by omega
   clear hg
   rcases hparts with h1 | ⟨h1, h2⟩ | ⟨h1, h2, h4⟩
   all_goals
    go_wp2_with fail
    refine (digit_any _ la k _ (ha0.out.below hbl)).mono ?_
    rw [HX.out]; rintro e w1 ⟨rfl, rfl⟩
    go_wp2_with fail
    refine (digit_any _ lb k _ (hb0.out.below hbl)).mono ?_
    rw [HY.out]; rintro e w1 ⟨rfl, rfl⟩
    go_wp2_with (at_builtin; go_must (refine app1 rfl _ _ 177 rfl Tryz.underlying177 eiInt w.heap.size (by rfl) hown (by rfl) rfl (by simp [Value.oneCell']) (by omega) hbl.size ?_))
    intro v' w' hown' hb' _
    go_wp2
    go_roundw
    case rel =>
     refine ⟨k + 1, l ++ [(x + y + cc) % 65536], (x + y + cc) / 65536, by go_num, rfl, by omega, by omega, by simp [HK.out], ?_, ?_, hbl.trans hb'⟩
     ·simpa using hown'
     ·rw [HL.out, HS.out]; simp
    case measure => simp [intOf] <;> omega
  ·have hend := addL_end (la := la) (lb := lb) (k := k) (c := cc) (by omega) (by omega) (by omega)
   have he := HL.out
   rw [hend, List.append_nil] at he
   have HE := hH he; clear he hend
   obtain ⟨h1, h2, h4⟩ : la.length ≤ k ∧ lb.length ≤ k ∧ cc ≤ 0 := by omega
   clear hg
   obtain ⟨g1, g2⟩ := Ints.own hown (by have := HK.out; omega)
   go_wp2_with fail
   refine (trim_any _ l _ g2).mono ?_
   rintro e w1 ⟨v', rfl, hv', hfr, rfl⟩
   go_wp2
   go_ret
   exact ⟨v', rfl, by rw [HE.out]; exact hv', hfr _ (Fresh.own hown), hbl⟩

theorem plus_any (va vb : Value) (m n : Nat) (w : World) (ha : Ints .i64 w va (digs m)) (hb : Ints .i64 w vb (digs n)) (hm : (digs m).length + (digs n).length ≤ 1000000) :
  Calls Tryz.prog 166 #[va, vb] w fun e w' => BigR w e w' (m + n) :=
 (plusL_any va vb _ _ w ha hb (digs_dig m) (digs_dig n) hm).mono fun e w' ⟨v, h1, h2, h3⟩ => ⟨v, h1, by rw [← addL_digs]; exact h2, h3⟩
end Go.Proofs.YtgobbecpnjelmaaGreat

namespace Go.Proofs.YtgobbecpnjelmaaGreat
open Go.RowKit

def subL : List Int → List Int → Int → List Int
 | [], _, _ => []
 | a :: xs, ys, c => if a - ys.headD 0 - c < 0 then (a - ys.headD 0 - c + 65536) :: subL xs ys.tail 1 else (a - ys.headD 0 - c) :: subL xs ys.tail 0

theorem bv_head (l : List Int) : bv l = (l.headD 0).toNat + 65536 * bv l.tail := by cases l <;> rfl

theorem dig_head {l : List Int} (h : Dig l) : 0 ≤ l.headD 0 ∧ l.headD 0 ≤ 65535 := by
 cases l with
 | nil => simp
 | cons a l => exact h a (by simp)

theorem dig_tail {l : List Int} (h : Dig l) : Dig l.tail := by
 cases l with
 | nil => exact h
 | cons a l => exact fun d hd => h d (by simp at hd; simp [hd])

theorem subL_spec : ∀ (xs ys : List Int) (c : Int), Dig xs → Dig ys → 0 ≤ c → c ≤ 1 → bv ys + c.toNat ≤ bv xs → Dig (subL xs ys c) ∧ bv (subL xs ys c) + bv ys + c.toNat = bv xs := by
 intro xs
 induction xs with
 | nil =>
  intro ys c _ _ _ _ h
  simp only [bv] at h
  exact ⟨fun d hd => by simp [subL] at hd, by simp only [subL, bv]; omega⟩
 | cons a xs ih =>
  intro ys c hx hy h0 h1 h
  have ha := hx a (by simp)
  have hb := dig_head hy
  rw [bv_head ys] at h ⊢
  simp only [bv] at h ⊢
  simp only [subL]
  split
  ·obtain ⟨g1, g2⟩ := ih ys.tail 1 (fun d hd => hx d (by simp [hd])) (dig_tail hy) (by omega) (by omega) (by omega)
   refine ⟨fun d hd => ?_, by simp only [bv]; omega⟩
   rcases List.mem_cons.1 hd with h | h
   ·subst h; omega
   ·exact g1 d h
  ·obtain ⟨g1, g2⟩ := ih ys.tail 0 (fun d hd => hx d (by simp [hd])) (dig_tail hy) (by omega) (by omega) (by omega)
   refine ⟨fun d hd => ?_, by simp only [bv]; omega⟩
   rcases List.mem_cons.1 hd with h | h
   ·subst h; omega
   ·exact g1 d h

theorem subL_digs {m n : Nat} (h : n ≤ m) : trimL (subL (digs m) (digs n) 0) = digs (m - n) := by
 obtain ⟨h1, h2⟩ := subL_spec (digs m) (digs n) 0 (digs_dig m) (digs_dig n) (by omega) (by omega) (by rw [bv_digs, bv_digs]; simpa using h)
 rw [bv_digs, bv_digs] at h2
 rw [trimL_digs h1, show bv (subL (digs m) (digs n) 0) = m - n by simp at h2; omega]

theorem bv_lt {l : List Int} (h : Dig l) : bv l < 65536 ^ l.length := by
 induction l with
 | nil => simp [bv]
 | cons d l ih =>
  have h0 := h d (by simp)
  have := ih (fun x hx => h x (by simp [hx]))
  simp only [bv, List.length_cons, Nat.pow_succ]
  omega

theorem dig_take {l : List Int} (h : Dig l) (k : Nat) : Dig (l.take k) := fun d hd => h d (List.mem_of_mem_take hd)

theorem digs_lt_pow (n : Nat) : n < 65536 ^ (digs n).length := by
 have := bv_lt (digs_dig n)
 rwa [bv_digs] at this

theorem canon_ge : ∀ {l : List Int}, Canon l → Dig l → l ≠ [] → 65536 ^ (l.length - 1) ≤ bv l := by
 intro l
 induction l with
 | nil => intro _ _ h; exact absurd rfl h
 | cons d l ih =>
  intro hc hd _
  cases l with
  | nil => have : 0 < d := hc; simp [bv]; omega
  | cons e l =>
   have := ih hc (fun x hx => hd x (by simp [hx])) (by simp)
   simp only [List.length_cons, Nat.add_sub_cancel, bv, Nat.pow_succ] at this ⊢
   omega

theorem digs_len_lt {m n : Nat} (h : (digs m).length < (digs n).length) : m < n := by
 have h1 := digs_lt_pow m
 have h2 := canon_ge (canon_digs n) (digs_dig n) (by intro h0; rw [h0] at h; simp at h)
 rw [bv_digs] at h2
 have h3 : 65536 ^ (digs m).length ≤ 65536 ^ ((digs n).length - 1) := Nat.pow_le_pow_right (by omega) (by omega)
 omega

theorem bv_split {l : List Int} {k : Nat} {x : Int} (h : l[k]? = some x) : bv l = bv (l.take k) + 65536 ^ k * (x.toNat + 65536 * bv (l.drop (k + 1))) := by
 have hk : k < l.length := (List.getElem?_eq_some_iff.1 h).1
 have e : l = l.take k ++ (x :: l.drop (k + 1)) := by
  have hxx : l[k]'hk = x := (List.getElem?_eq_some_iff.1 h).2
  rw [← hxx, ← List.drop_eq_getElem_cons hk, List.take_append_drop]
 have := congrArg bv e
 rw [bv_append, List.length_take, Nat.min_eq_left (by omega)] at this
 simpa [bv] using this

theorem bv_lt_of {la lb : List Int} {k : Nat} {x y : Int} (da : Dig la) (db : Dig lb) (hx : la[k]? = some x) (hy : lb[k]? = some y) (hd : la.drop (k + 1) = lb.drop (k + 1)) (h : x < y) : bv la < bv lb := by
 rw [bv_split hx, bv_split hy, hd]
 have hk : k < la.length := (List.getElem?_eq_some_iff.1 hx).1
 have h1 := bv_lt (dig_take da k)
 rw [List.length_take, Nat.min_eq_left (by omega)] at h1
 have hx0 := da x (List.mem_of_getElem? hx)
 have hy0 := db y (List.mem_of_getElem? hy)
 have h2 : 65536 ^ k * (x.toNat + 65536 * bv (lb.drop (k + 1)) + 1) ≤ 65536 ^ k * (y.toNat + 65536 * bv (lb.drop (k + 1))) := Nat.mul_le_mul_left _ (by omega)
 rw [Nat.mul_add _ _ 1] at h2
 omega

def ordI (m n : Nat) : Int := if m < n then -1 else if n < m then 1 else 0

end Go.Proofs.YtgobbecpnjelmaaGreat

namespace Go.Proofs.YtgobbecpnjelmaaGreat
open Go.RowKit

theorem subL_step {la lb : List Int} {k : Nat} {c x y : Int} (hx : la[k]? = some x) (hy : lb.getD k 0 = y) :
  subL (la.drop k) (lb.drop k) c = if x - y - c < 0 then (x - y - c + 65536) :: subL (la.drop (k + 1)) (lb.drop (k + 1)) 1 else (x - y - c) :: subL (la.drop (k + 1)) (lb.drop (k + 1)) 0 := by
 have hk : k < la.length := (List.getElem?_eq_some_iff.1 hx).1
 have e1 : (lb.drop k).headD 0 = y := by rw [← hy]; simp
 have e2 : (lb.drop k).tail = lb.drop (k + 1) := by simp
 have e3 : la.drop k = x :: la.drop (k + 1) := by rw [drop_getD hk, getD_of hx]
 rw [e3]
 simp only [subL, e1, e2]

set_option maxRecDepth 100000 in
set_option maxHeartbeats 800000 in
theorem minusL_any (va vb : Value) (la lb : List Int) (w : World) (ha : Ints .i64 w va la) (hb : Ints .i64 w vb lb) (da : Dig la) (db : Dig lb) (hla : la.length ≤ 1000000) :
  Calls Tryz.prog 167 #[va, vb] w fun e w' => ∃ v, e = .returned v ∧ Ints .i64 w' v (trimL (subL la lb 0)) ∧ Fresh w.heap.size v ∧ Below w.heap.size w w' := by
 have ha0 := hH ha
 have hb0 := hH hb
 obtain ⟨aa, ca, rfl, _, _, h3, hA⟩ := ha
 obtain ⟨ab, cb, rfl, _, _, h3', _⟩ := hb
 have HA := hH hA; clear hA
 go_enter Tryz.func167, Tryz.ntmps167
 go_wp2
 go_loopw [5, 6, 7] (fun v c i wr => ∃ (k : Nat) (l : List Int) (cc : Int), i = .int .i64 k ∧ c = .int .i64 cc ∧ 0 ≤ cc ∧ cc ≤ 1 ∧ l.length = k ∧ k ≤ la.length ∧ wr.ownsRow w.heap.size 3 1 v l.length (l.map (.int .i64)) ∧ subL la lb 0 = l ++ subL (la.drop k) (lb.drop k) cc ∧ Below w.heap.size w wr) (fun _ _ i _ => la.length - (intOf i).toNat)
 case atStart => exact ⟨0, [], 0, rfl, rfl, by omega, by omega, rfl, by omega, World.ownsRow_nil _ _ _ _, rfl, Below.refl _ _⟩
 case round =>
  obtain ⟨k, l, cc, rfl, rfl, hc0, hc1, hlk, hkl, hown, hl, hbl⟩ := hrel
  have hll : l.length ≤ la.length := by omega
  have HL := hH hl; clear hl
  have HK := hH hlk; clear hlk
  by_cases hg : k < la.length
  ·obtain ⟨x, hx⟩ := getElem?_ex hg
   obtain ⟨y, hy⟩ : ∃ y, lb.getD k 0 = y := ⟨_, rfl⟩
   have hxb := da x (List.mem_of_getElem? hx)
   have hyb := dig_getD db k
   rw [hy] at hyb
   obtain ⟨b1, o1, rfl, hb1, hc1'⟩ := HA.out k x hx
   have hcell := (hbl.cell (p := ⟨b1, o1 + k, none⟩) hb1).trans hc1'
   clear hc1'
   have hst := subL_step (c := cc) hx hy
   have HS := hH hst; clear hst
   have hdig : ∀ n, Calls Tryz.prog 168 #[.slice ab lb.length cb, .int .i64 k] (wr.drewN n) fun e w' => e = .returned (.int .i64 y) ∧ wr.drewN n = w' := fun n => by
    have := digit_any _ lb k _ ((hb0.out.below hbl).drewN n)
    rw [hy] at this; exact this
   have HDG := hH hdig; clear hdig
   have HX := hH hx; clear hx
   have HY := hH hy; clear hy
   go_wp2
   go_quiet ((go_at_call 168; exact quiet_left (HDG.out _)))
   by_cases hneg : x - y - cc < 0
   all_goals
    go_wp2_with (at_builtin; go_must (refine app1 rfl _ _ 177 rfl Tryz.underlying177 eiInt w.heap.size (by rfl) hown (by rfl) rfl (by simp [Value.oneCell']) (by omega) hbl.size ?_))
    intro v' w' hown' hb' _
    go_wp2
    go_roundw
    case rel => first
     | exact ⟨k + 1, l ++ [x - y - cc + 65536], 1, by go_num, rfl, by omega, by omega, by simp [HK.out], by omega, by simpa using hown', by rw [HL.out, HS.out, if_pos (by omega)]; simp, (below_drewN hbl nq).trans hb'⟩
     | exact ⟨k + 1, l ++ [x - y - cc], 0, by go_num, rfl, by omega, by omega, by simp [HK.out], by omega, by simpa using hown', by rw [HL.out, HS.out, if_neg (by omega)]; simp, (below_drewN hbl nq).trans hb'⟩
    case measure => simp [intOf] <;> omega
  ·obtain rfl : k = la.length := by omega
   have he := HL.out
   rw [List.drop_of_length_le (l := la) (Nat.le_refl _)] at he
   simp only [subL, List.append_nil] at he
   have HE := hH he; clear he
   obtain ⟨g1, g2⟩ := Ints.own hown (by omega)
   go_wp2_with fail
   refine (trim_any _ l _ g2).mono ?_
   rintro e w1 ⟨v', rfl, hv', hfr, rfl⟩
   go_wp2
   go_ret
   exact ⟨v', rfl, by rw [HE.out]; exact hv', hfr _ (Fresh.own hown), hbl⟩

theorem minus_any (va vb : Value) (m n : Nat) (w : World) (ha : Ints .i64 w va (digs m)) (hb : Ints .i64 w vb (digs n)) (hm : (digs m).length ≤ 1000000) (hle : n ≤ m) :
  Calls Tryz.prog 167 #[va, vb] w fun e w' => BigR w e w' (m - n) :=
 (minusL_any va vb _ _ w ha hb (digs_dig m) (digs_dig n) hm).mono fun e w' ⟨v, h1, h2, h3⟩ => ⟨v, h1, by rw [← subL_digs hle]; exact h2, h3⟩

set_option maxHeartbeats 800000 in
theorem order_any (va vb : Value) (m n : Nat) (w : World) (ha : Ints .i64 w va (digs m)) (hb : Ints .i64 w vb (digs n)) :
  Calls Tryz.prog 165 #[va, vb] w fun e w' => e = .returned (.int .i64 (ordI m n)) ∧ ∃ d, w' = w.drewN d := by
 obtain ⟨la, hla⟩ : ∃ la, digs m = la := ⟨_, rfl⟩
 obtain ⟨lb, hlb⟩ : ∃ lb, digs n = lb := ⟨_, rfl⟩
 rw [hla] at ha
 rw [hlb] at hb
 have MA : Hid (digs m = la) := hla
 have MB : Hid (digs n = lb) := hlb
 have da : Dig la := by rw [← hla]; exact digs_dig m
 have db : Dig lb := by rw [← hlb]; exact digs_dig n
 have va' : bv la = m := by rw [← hla]; exact bv_digs m
 have vb' : bv lb = n := by rw [← hlb]; exact bv_digs n
 have VA := hH va'; clear va'
 have VB := hH vb'; clear vb'
 have DA := hH da; clear da
 have DB := hH db; clear db
 have hlen1 : la.length < lb.length → m < n := fun h => digs_len_lt (by rw [hla, hlb]; exact h)
 have hlen2 : lb.length < la.length → n < m := fun h => digs_len_lt (by rw [hla, hlb]; exact h)
 have H1 := hH hlen1; clear hlen1
 have H2 := hH hlen2; clear hlen2
 clear hla hlb
 obtain ⟨aa, ca, rfl, _, _, h3, hA⟩ := ha
 obtain ⟨ab, cb, rfl, _, _, h3', hB⟩ := hb
 have HA := hH hA; clear hA
 have HB := hH hB; clear hB
 obtain ⟨q, hq⟩ : ∃ q, lb.length = q := ⟨_, rfl⟩
 rw [hq] at h3' ⊢
 have HQ := hH hq; clear hq
 by_cases hl : la.length = q
 ·obtain rfl := hl
  have hb : ((la.length : Int) != la.length) = false := by simp
  go_enter Tryz.func165, Tryz.ntmps165
  go_wp2
  go_loopw [5] (fun i wr => ∃ k : Nat, k ≤ la.length ∧ i = .int .i64 ((k : Int) - 1) ∧ la.drop k = lb.drop k ∧ ∃ d, wr = w.drewN d) (fun i _ => (intOf i + 1).toNat)
  case atStart => exact ⟨la.length, Nat.le_refl _, rfl, by rw [List.drop_of_length_le (Nat.le_refl _), List.drop_of_length_le (by rw [HQ.out]; omega)], 0, rfl⟩
  case round =>
   obtain ⟨k, hk, rfl, hdr, d, rfl⟩ := hrel
   have HD := hH hdr; clear hdr
   by_cases h0 : 0 < k
   ·obtain ⟨j, hj⟩ : ∃ j, k = j + 1 := ⟨k - 1, by omega⟩
    subst hj
    have e1 : ((j + 1 : Nat) : Int) - 1 = j := by omega
    rw [e1]
    clear e1
    have hjl : j < la.length := by omega
    obtain ⟨x, hx⟩ := getElem?_ex hjl
    obtain ⟨y, hy⟩ := getElem?_ex (l := lb) (k := j) (by rw [HQ.out]; exact hjl)
    obtain ⟨b1, o1, rfl, hb1, hc1⟩ := HA.out j x hx
    obtain ⟨b2, o2, rfl, hb2, hc2⟩ := HB.out j y hy
    have HX := hH hx; clear hx
    have HY := hH hy; clear hy
    go_wp2
    go_quiet (fail)
    by_cases hxy : x < y
    ·go_wp2
     go_ret
     refine ⟨ret_int ?_, _, World.drewN_drewN _ _ _⟩
     have := bv_lt_of DA.out DB.out HX.out HY.out HD.out hxy
     rw [VA.out, VB.out] at this
     simp [ordI, this]
    ·go_wp2
     go_quiet (fail)
     by_cases hyx : y < x
     ·go_wp2
      go_ret
      refine ⟨ret_int ?_, _, World.drewN_drewN _ _ _⟩
      have := bv_lt_of DB.out DA.out HY.out HX.out HD.out.symm hyx
      rw [VA.out, VB.out] at this
      simp [ordI, this, Nat.lt_asymm this]
     ·go_wp2
      go_roundw
      case rel =>
       refine ⟨j, by omega, rfl, ?_, _, rfl⟩
       have : x = y := by omega
       rw [drop_getD hjl, drop_getD (l := lb) (k := j) (by rw [HQ.out]; exact hjl), getD_of HX.out, getD_of HY.out, HD.out, this]
      case measure => simp [intOf] <;> omega
   ·obtain rfl : k = 0 := by omega
    go_wp2
    go_ret
    refine ⟨ret_int ?_, _, rfl⟩
    have hp := HD.out
    simp only [List.drop_zero] at hp
    have : m = n := by rw [← VA.out, ← VB.out, hp]
    simp [ordI, this]
 ·have hb : ((la.length : Int) != q) = true := by simp; omega
  by_cases hlt : la.length < q
  all_goals
   go_enter Tryz.func165, Tryz.ntmps165
   go_wp2
   go_ret
   refine ⟨ret_int ?_, 0, rfl⟩
  ·have := H1.out (by rw [HQ.out]; exact hlt)
   simp [ordI, this]
  ·have := H2.out (by rw [HQ.out]; omega)
   simp [ordI, this, Nat.lt_asymm this]
end Go.Proofs.YtgobbecpnjelmaaGreat

namespace Go.Proofs.YtgobbecpnjelmaaGreat
open Go.RowKit

def WholeR (w : World) (v : Value) (z : Int) : Prop :=
 ∃ neg vb, v = .agg #[.bool neg, vb] ∧ Ints .i64 w vb (digs z.natAbs) ∧ (neg = true → z ≤ 0) ∧ (neg = false → 0 ≤ z)

theorem WholeR.below {w w' : World} {v : Value} {z : Int} (h : WholeR w v z) (hb : Below w.heap.size w w') : WholeR w' v z := by
 obtain ⟨neg, vb, rfl, h1, h2, h3⟩ := h
 exact ⟨neg, vb, rfl, h1.below hb, h2, h3⟩

def Sm (n : Nat) : Prop := (digs n).length ≤ 400000

theorem Sm.of {n : Nat} {k : Nat} (h : n < 65536 ^ k) (hk : k ≤ 400000) : Sm n := Nat.le_trans (digs_len n k h) hk

def WFresh (B : Nat) (v : Value) : Prop := ∃ neg vb, v = .agg #[.bool neg, vb] ∧ Fresh B vb

def WholeP (w : World) (e : Ending) (w' : World) (z : Int) : Prop := ∃ v, e = .returned v ∧ WholeR w' v z ∧ WFresh w.heap.size v ∧ Below w.heap.size w w'

attribute [local go_sem ↓] Go.wp_at_zero Go.wp_at_succ

set_option maxRecDepth 100000 in
set_option maxHeartbeats 400000 in
theorem int_any (a : Int) (w : World) (h1 : -9223372036854775808 ≤ a) (h2 : a ≤ 9223372036854775807) :
  Calls Tryz.prog 159 #[.int .i64 a] w fun e w' => WholeP w e w' a := by
 have hb0 : Below w.heap.size w (w.alloc (.cells #[.bool false, .slice none 0 0] 179)) := (Below.refl _ _).alloc (Nat.le_refl _) _
 by_cases hn : a < 0
 ·have hof := of_any a.natAbs (w.alloc (.cells #[.bool false, .slice none 0 0] 179)) (by omega)
  rw [show ((a.natAbs : Nat) : Int) = -(a + 1) + 1 by omega] at hof
  have HOF := hH hof; clear hof
  go_enter Tryz.func159, Tryz.ntmps159
  go_wp2_with (go_at_call 164; refine (HOF.out).mono ?_; rintro e w1 ⟨v, rfl, hv, hfv, hbw⟩; obtain ⟨av, cv, hve⟩ := hv.shape; subst hve; have c0_0 := hbw.cell (p := ⟨w.heap.size, 0, none⟩) (by first | omega | (simp <;> omega)); have f0_0 := hbw.frozen (p := ⟨w.heap.size, 0, none⟩) (by first | omega | (simp <;> omega)); have c0_1 := hbw.cell (p := ⟨w.heap.size, 1, none⟩) (by first | omega | (simp <;> omega)); have f0_1 := hbw.frozen (p := ⟨w.heap.size, 1, none⟩) (by first | omega | (simp <;> omega)); have hz : w.heap.size < w1.heap.size := by have := hbw.size; simp at this; omega)
  refine bodyPost_ret (v := .agg #[.bool true, .slice av (digs a.natAbs).length cv]) (by simp [results, Tryz.results159, go_sem, *]) rfl ⟨_, rfl, ⟨_, _, rfl, ?_, by omega, by simp⟩, ⟨_, _, rfl, hfv.mono (by simp)⟩, ?_⟩
  ·exact (hv.setCell hfv (by simp) _).setCell hfv (by simp) _
  ·exact ((hb0.trans (hbw.mono (by simp))).setCell (Nat.le_refl _) _).setCell (Nat.le_refl _) _
 ·have hof := of_any a.natAbs (w.alloc (.cells #[.bool false, .slice none 0 0] 179)) (by omega)
  rw [show ((a.natAbs : Nat) : Int) = a by omega] at hof
  have HOF := hH hof; clear hof
  go_enter Tryz.func159, Tryz.ntmps159
  go_wp2_with (go_at_call 164; refine (HOF.out).mono ?_; rintro e w1 ⟨v, rfl, hv, hfv, hbw⟩; obtain ⟨av, cv, hve⟩ := hv.shape; subst hve; have c0_0 := hbw.cell (p := ⟨w.heap.size, 0, none⟩) (by first | omega | (simp <;> omega)); have f0_0 := hbw.frozen (p := ⟨w.heap.size, 0, none⟩) (by first | omega | (simp <;> omega)); have c0_1 := hbw.cell (p := ⟨w.heap.size, 1, none⟩) (by first | omega | (simp <;> omega)); have f0_1 := hbw.frozen (p := ⟨w.heap.size, 1, none⟩) (by first | omega | (simp <;> omega)); have hz : w.heap.size < w1.heap.size := by have := hbw.size; simp at this; omega)
  refine bodyPost_ret (v := .agg #[.bool false, .slice av (digs a.natAbs).length cv]) (by simp [results, Tryz.results159, go_sem, *]) rfl ⟨_, rfl, ⟨_, _, rfl, ?_, by simp, by omega⟩, ⟨_, _, rfl, hfv.mono (by simp)⟩, ?_⟩
  ·exact (hv.setCell hfv (by simp) _).setCell hfv (by simp) _
  ·exact ((hb0.trans (hbw.mono (by simp))).setCell (Nat.le_refl _) _).setCell (Nat.le_refl _) _

set_option maxRecDepth 100000 in
set_option maxHeartbeats 1000000 in
theorem both_any (va vb : Value) (a b : Int) (w : World) (ha : WholeR w va a) (hb : WholeR w vb b) (sa : Sm a.natAbs) (sb : Sm b.natAbs) :
  Calls Tryz.prog 158 #[va, vb] w fun e w' => WholeP w e w' (a + b) := by
 obtain ⟨na, xa, rfl, ha1, ha2, ha3⟩ := ha
 obtain ⟨nb, xb, rfl, hb1, hb2, hb3⟩ := hb
 have HA2 := hH ha2; clear ha2
 have HB2 := hH hb2; clear hb2
 have HA3 := hH ha3; clear ha3
 have HB3 := hH hb3; clear hb3
 have hb0 : Below w.heap.size w (((w.alloc (.cells #[.bool na, xa] 179)).alloc (.cells #[.bool nb, xb] 179)).alloc (.cells #[.bool false, .slice none 0 0] 179)) :=
   (((Below.refl _ _).alloc (Nat.le_refl _) _).alloc (by simp) _).alloc (by simp; omega) _
 have HA1 := hH (ha1.below hb0)
 have HB1 := hH (hb1.below hb0)
 clear ha1 hb1
 have HS : Hid ((digs a.natAbs).length + (digs b.natAbs).length ≤ 1000000 ∧ (digs a.natAbs).length ≤ 1000000 ∧ (digs b.natAbs).length ≤ 1000000) := by unfold Sm at sa sb; exact ⟨by omega, by omega, by omega⟩
 clear sa sb
 have HBZ := hH hb0; clear hb0
 by_cases hs : na = nb
 ·subst hs
  have hq : (na == na) = true := by simp
  go_enter Tryz.func158, Tryz.ntmps158
  go_wp2
  go_region_held3 (fun w' => w'.cell? ⟨w.heap.size, 0, none⟩ = some (.bool na) ∧ w'.cell? ⟨w.heap.size, 1, none⟩ = some (xa) ∧ w'.cell? ⟨w.heap.size + 1, 1, none⟩ = some (xb)) (first | (go_simp; done) | (go_keep; done) | (refine ⟨?_, ?_, ?_⟩ <;> first | (go_simp; done) | (go_keep; done))) (first | (go_at_call 166; refine (plus_any _ _ a.natAbs b.natAbs _ (HA1.out.drewN 1) (HB1.out.drewN 1) HS.out.1).mono ?_; rintro e w1 ⟨v, rfl, hv, hfv, hbw⟩; obtain ⟨av, cv, hve⟩ := hv.shape; subst hve; have c0_0 := hbw.cell (p := ⟨w.heap.size, 0, none⟩) (by first | omega | (simp <;> omega)); have f0_0 := hbw.frozen (p := ⟨w.heap.size, 0, none⟩) (by first | omega | (simp <;> omega)); have c0_1 := hbw.cell (p := ⟨w.heap.size, 1, none⟩) (by first | omega | (simp <;> omega)); have f0_1 := hbw.frozen (p := ⟨w.heap.size, 1, none⟩) (by first | omega | (simp <;> omega)); have c1_0 := hbw.cell (p := ⟨w.heap.size + 1, 0, none⟩) (by first | omega | (simp <;> omega)); have f1_0 := hbw.frozen (p := ⟨w.heap.size + 1, 0, none⟩) (by first | omega | (simp <;> omega)); have c1_1 := hbw.cell (p := ⟨w.heap.size + 1, 1, none⟩) (by first | omega | (simp <;> omega)); have f1_1 := hbw.frozen (p := ⟨w.heap.size + 1, 1, none⟩) (by first | omega | (simp <;> omega)); have c2_0 := hbw.cell (p := ⟨w.heap.size + 1 + 1, 0, none⟩) (by first | omega | (simp <;> omega)); have f2_0 := hbw.frozen (p := ⟨w.heap.size + 1 + 1, 0, none⟩) (by first | omega | (simp <;> omega)); have c2_1 := hbw.cell (p := ⟨w.heap.size + 1 + 1, 1, none⟩) (by first | omega | (simp <;> omega)); have f2_1 := hbw.frozen (p := ⟨w.heap.size + 1 + 1, 1, none⟩) (by first | omega | (simp <;> omega)); have hz : w.heap.size + 1 + 1 < w1.heap.size := by have := hbw.size; simp at this; omega))
  go_wp2
  have e0 : (a + b).natAbs = a.natAbs + b.natAbs := by
   have := HA2.out; have := HB2.out; have := HA3.out; have := HB3.out
   cases na <;> simp_all <;> omega
  refine bodyPost_ret (v := .agg #[.bool na, .slice av (digs (a.natAbs + b.natAbs)).length cv]) (by simp [results, Tryz.results158, go_sem, *]) rfl ⟨_, rfl, ⟨_, _, rfl, ?_, fun h => ?_, fun h => ?_⟩, ⟨_, _, rfl, hfv.mono (by simp; omega)⟩, ?_⟩
  ·rw [e0]; exact (hv.setCell hfv (by simp) _).setCell hfv (by simp) _
  ·have := HA2.out h; have := HB2.out h; omega
  ·have := HA3.out h; have := HB3.out h; omega
  ·exact ((HBZ.out.drew.trans (hbw.mono (by simp; omega))).setCell (by simp; omega) _).setCell (by simp; omega) _
 ·have hq : (na == nb) = false := by simp [hs]
  have HNN := hH hs; clear hs
  have hor := order_any xa xb a.natAbs b.natAbs _ HA1.out HB1.out
  have HOR := hH hor; clear hor
  obtain ⟨r, hr⟩ : ∃ r, ordI a.natAbs b.natAbs = r := ⟨_, rfl⟩
  rw [hr] at HOR
  by_cases hge : 0 ≤ r
  ·have hle : b.natAbs ≤ a.natAbs := by rw [← hr] at hge; unfold ordI at hge; split at hge <;> omega
   have HR := hH hr; clear hr
   go_enter Tryz.func158, Tryz.ntmps158
   go_wp2_with (go_at_call 165; refine HOR.out.mono ?_; rintro e w0 ⟨rfl, d, rfl⟩)
   go_region_held3 (fun w' => w'.cell? ⟨w.heap.size, 0, none⟩ = some (.bool na) ∧ w'.cell? ⟨w.heap.size, 1, none⟩ = some (xa) ∧ w'.cell? ⟨w.heap.size + 1, 1, none⟩ = some (xb)) (first | (go_simp; done) | (go_keep; done) | (refine ⟨?_, ?_, ?_⟩ <;> first | (go_simp; done) | (go_keep; done))) (first | (go_at_call 167; refine (minus_any _ _ a.natAbs b.natAbs _ (HA1.out.drewN _) (HB1.out.drewN _) HS.out.2.1 hle).mono ?_; rintro e w1 ⟨v, rfl, hv, hfv, hbw⟩; obtain ⟨av, cv, hve⟩ := hv.shape; subst hve; have c0_0 := hbw.cell (p := ⟨w.heap.size, 0, none⟩) (by first | omega | (simp <;> omega)); have f0_0 := hbw.frozen (p := ⟨w.heap.size, 0, none⟩) (by first | omega | (simp <;> omega)); have c0_1 := hbw.cell (p := ⟨w.heap.size, 1, none⟩) (by first | omega | (simp <;> omega)); have f0_1 := hbw.frozen (p := ⟨w.heap.size, 1, none⟩) (by first | omega | (simp <;> omega)); have c1_0 := hbw.cell (p := ⟨w.heap.size + 1, 0, none⟩) (by first | omega | (simp <;> omega)); have f1_0 := hbw.frozen (p := ⟨w.heap.size + 1, 0, none⟩) (by first | omega | (simp <;> omega)); have c1_1 := hbw.cell (p := ⟨w.heap.size + 1, 1, none⟩) (by first | omega | (simp <;> omega)); have f1_1 := hbw.frozen (p := ⟨w.heap.size + 1, 1, none⟩) (by first | omega | (simp <;> omega)); have c2_0 := hbw.cell (p := ⟨w.heap.size + 1 + 1, 0, none⟩) (by first | omega | (simp <;> omega)); have f2_0 := hbw.frozen (p := ⟨w.heap.size + 1 + 1, 0, none⟩) (by first | omega | (simp <;> omega)); have c2_1 := hbw.cell (p := ⟨w.heap.size + 1 + 1, 1, none⟩) (by first | omega | (simp <;> omega)); have f2_1 := hbw.frozen (p := ⟨w.heap.size + 1 + 1, 1, none⟩) (by first | omega | (simp <;> omega)); have hz : w.heap.size + 1 + 1 < w1.heap.size := by have := hbw.size; simp at this; omega))
   go_wp2
   have e0 : (a + b).natAbs = a.natAbs - b.natAbs := by
    have := HA2.out; have := HB2.out; have := HA3.out; have := HB3.out; have := HNN.out
    cases na <;> cases nb <;> simp_all <;> omega
   refine bodyPost_ret (v := .agg #[.bool na, .slice av (digs (a.natAbs - b.natAbs)).length cv]) (by simp [results, Tryz.results158, go_sem, *]) rfl ⟨_, rfl, ⟨_, _, rfl, ?_, fun h => ?_, fun h => ?_⟩, ⟨_, _, rfl, hfv.mono (by simp; omega)⟩, ?_⟩
   ·rw [e0]; exact (hv.setCell hfv (by simp) _).setCell hfv (by simp) _
   ·have := HA2.out h; omega
   ·have := HA3.out h; omega
   ·exact (((below_drewN HBZ.out _).trans (hbw.mono (by simp; omega))).setCell (by simp; omega) _).setCell (by simp; omega) _
  ·have hle : a.natAbs < b.natAbs := by rw [← hr] at hge; unfold ordI at hge; split at hge <;> omega
   have HR := hH hr; clear hr
   go_enter Tryz.func158, Tryz.ntmps158
   go_wp2_with (go_at_call 165; refine HOR.out.mono ?_; rintro e w0 ⟨rfl, d, rfl⟩)
   go_region_held3 (fun w' => w'.cell? ⟨w.heap.size + 1, 0, none⟩ = some (.bool nb) ∧ w'.cell? ⟨w.heap.size, 1, none⟩ = some (xa) ∧ w'.cell? ⟨w.heap.size + 1, 1, none⟩ = some (xb)) (first | (go_simp; done) | (go_keep; done) | (refine ⟨?_, ?_, ?_⟩ <;> first | (go_simp; done) | (go_keep; done))) (first | (go_at_call 167; refine (minus_any _ _ b.natAbs a.natAbs _ (HB1.out.drewN _) (HA1.out.drewN _) HS.out.2.2 (Nat.le_of_lt hle)).mono ?_; rintro e w1 ⟨v, rfl, hv, hfv, hbw⟩; obtain ⟨av, cv, hve⟩ := hv.shape; subst hve; have c0_0 := hbw.cell (p := ⟨w.heap.size, 0, none⟩) (by first | omega | (simp <;> omega)); have f0_0 := hbw.frozen (p := ⟨w.heap.size, 0, none⟩) (by first | omega | (simp <;> omega)); have c0_1 := hbw.cell (p := ⟨w.heap.size, 1, none⟩) (by first | omega | (simp <;> omega)); have f0_1 := hbw.frozen (p := ⟨w.heap.size, 1, none⟩) (by first | omega | (simp <;> omega)); have c1_0 := hbw.cell (p := ⟨w.heap.size + 1, 0, none⟩) (by first | omega | (simp <;> omega)); have f1_0 := hbw.frozen (p := ⟨w.heap.size + 1, 0, none⟩) (by first | omega | (simp <;> omega)); have c1_1 := hbw.cell (p := ⟨w.heap.size + 1, 1, none⟩) (by first | omega | (simp <;> omega)); have f1_1 := hbw.frozen (p := ⟨w.heap.size + 1, 1, none⟩) (by first | omega | (simp <;> omega)); have c2_0 := hbw.cell (p := ⟨w.heap.size + 1 + 1, 0, none⟩) (by first | omega | (simp <;> omega)); have f2_0 := hbw.frozen (p := ⟨w.heap.size + 1 + 1, 0, none⟩) (by first | omega | (simp <;> omega)); have c2_1 := hbw.cell (p := ⟨w.heap.size + 1 + 1, 1, none⟩) (by first | omega | (simp <;> omega)); have f2_1 := hbw.frozen (p := ⟨w.heap.size + 1 + 1, 1, none⟩) (by first | omega | (simp <;> omega)); have hz : w.heap.size + 1 + 1 < w1.heap.size := by have := hbw.size; simp at this; omega))
   go_wp2
   have e0 : (a + b).natAbs = b.natAbs - a.natAbs := by
    have := HA2.out; have := HB2.out; have := HA3.out; have := HB3.out; have := HNN.out
    cases na <;> cases nb <;> simp_all <;> omega
   refine bodyPost_ret (v := .agg #[.bool nb, .slice av (digs (b.natAbs - a.natAbs)).length cv]) (by simp [results, Tryz.results158, go_sem, *]) rfl ⟨_, rfl, ⟨_, _, rfl, ?_, fun h => ?_, fun h => ?_⟩, ⟨_, _, rfl, hfv.mono (by simp; omega)⟩, ?_⟩
   ·rw [e0]; exact (hv.setCell hfv (by simp) _).setCell hfv (by simp) _
   ·have := HB2.out h; omega
   ·have := HB3.out h; omega
   ·exact (((below_drewN HBZ.out _).trans (hbw.mono (by simp; omega))).setCell (by simp; omega) _).setCell (by simp; omega) _
end Go.Proofs.YtgobbecpnjelmaaGreat

namespace Go.Proofs.YtgobbecpnjelmaaGreat
open Go.RowKit

theorem Sm.len {m : Nat} (h : (digs m).length ≤ 1000) : Sm m := by unfold Sm; omega

theorem Ints.nil (k : IntKind) (w : World) : Ints k w (.slice none 0 0) [] := ⟨none, 0, rfl, by simp, by omega, by simp, fun i x h => by simp at h⟩

end Go.Proofs.YtgobbecpnjelmaaGreat

namespace Go.Proofs.YtgobbecpnjelmaaGreat
open Go.RowKit

theorem bv_drop {l : List Int} {j : Nat} {x : Int} (h : l[j]? = some x) : bv (l.drop j) = x.toNat + 65536 * bv (l.drop (j + 1)) := by
 have hk : j < l.length := (List.getElem?_eq_some_iff.1 h).1
 rw [drop_getD hk, getD_of h]; rfl

theorem bv_drop_le (l : List Int) (j : Nat) : bv (l.drop j) ≤ bv l := by
 have h := bv_append (l.take j) (l.drop j)
 rw [List.take_append_drop] at h
 have h1 : 1 ≤ 65536 ^ (l.take j).length := Nat.pow_pos (by omega)
 have h2 : 1 * bv (l.drop j) ≤ 65536 ^ (l.take j).length * bv (l.drop j) := Nat.mul_le_mul_right _ h1
 omega

def FitB (w : World) (e : Ending) (w' : World) (z : Int) : Prop := e = .returned (.tuple #[.int .i64 (fitV z), .int .i64 (fitE z)]) ∧ Below w.heap.size w w'

set_option maxRecDepth 100000 in
set_option maxHeartbeats 1000000 in
theorem fits_any (v : Value) (z : Int) (w : World) (h : WholeR w v z) :
  Calls Tryz.prog 157 #[v] w fun e w' => FitB w e w' z := by
 obtain ⟨neg, vb, rfl, h1, h2, h3⟩ := h
 obtain ⟨l, hl⟩ : ∃ l, digs z.natAbs = l := ⟨_, rfl⟩
 have hd : Dig l := by rw [← hl]; exact digs_dig _
 have hv : bv l = z.natAbs := by rw [← hl]; exact bv_digs _
 have HD := hH hd; clear hd
 have HV := hH hv; clear hv
 rw [hl] at h1
 have h1' := h1
 obtain ⟨a, c, rfl, hc1, hc2, hc3, hA⟩ := h1
 have hb0 : Below w.heap.size w (w.alloc (.cells #[.bool neg, .slice a l.length c] 179)) := (Below.refl _ _).alloc (Nat.le_refl _) _
 have hof := of_any 9223372036854775808 (w.alloc (.cells #[.bool neg, .slice a l.length c] 179)) (by omega)
 rw [show ((9223372036854775808 : Nat) : Int) = 9223372036854775808 from rfl] at hof
 have HOF := hH hof; clear hof
 have HB1 := hH (h1'.below hb0); clear h1'
 have HA := hH hA; clear hA
 have HBZ := hH hb0; clear hb0
 have H2 := hH h2; clear h2
 have H3 := hH h3; clear h3
 have HL := hH hl
 by_cases hbig : 9223372036854775808 < z.natAbs ∨ (z.natAbs = 9223372036854775808 ∧ neg = false)
 ·have hno : ¬ Ok64 z := by
   have := H2.out; have := H3.out; unfold Ok64
   rcases hbig with h | ⟨h, rfl⟩
   ·omega
   ·have := H3.out rfl; omega
  have HNO := hH hno; clear hno
  rcases hbig with h | ⟨h, rfl⟩
  ·have ho : ordI z.natAbs 9223372036854775808 = 1 := by unfold ordI; rw [if_neg (by omega), if_pos h]
   have HO := hH ho; clear ho h hl
   go_enter Tryz.func157, Tryz.ntmps157
   go_wp2_with (first | (go_at_call 164; refine HOF.out.mono ?_; rintro e w1 ⟨vt, rfl, hvt, hft, hbw⟩; have c0_0 := hbw.cell (p := ⟨w.heap.size, 0, none⟩) (by first | omega | (simp <;> omega)); have f0_0 := hbw.frozen (p := ⟨w.heap.size, 0, none⟩) (by first | omega | (simp <;> omega)); have c0_1 := hbw.cell (p := ⟨w.heap.size, 1, none⟩) (by first | omega | (simp <;> omega)); have f0_1 := hbw.frozen (p := ⟨w.heap.size, 1, none⟩) (by first | omega | (simp <;> omega))) | (go_at_call 165; refine (order_any _ _ z.natAbs 9223372036854775808 _ (HL.out ▸ HB1.out.below hbw) hvt).mono ?_; rw [HO.out]; rintro e w2 ⟨rfl, d, rfl⟩))
   go_ret2
   exact ⟨ret2 (fitV_no HNO.out).symm (fitE_no HNO.out).symm, below_drewN (HBZ.out.trans (hbw.mono (by simp))) _⟩
  ·have ho : ordI z.natAbs 9223372036854775808 = 0 := by unfold ordI; rw [if_neg (by omega), if_neg (by omega)]
   have HO := hH ho; clear ho h hl
   go_enter Tryz.func157, Tryz.ntmps157
   go_wp2_with (first | (go_at_call 164; refine HOF.out.mono ?_; rintro e w1 ⟨vt, rfl, hvt, hft, hbw⟩; have c0_0 := hbw.cell (p := ⟨w.heap.size, 0, none⟩) (by first | omega | (simp <;> omega)); have f0_0 := hbw.frozen (p := ⟨w.heap.size, 0, none⟩) (by first | omega | (simp <;> omega)); have c0_1 := hbw.cell (p := ⟨w.heap.size, 1, none⟩) (by first | omega | (simp <;> omega)); have f0_1 := hbw.frozen (p := ⟨w.heap.size, 1, none⟩) (by first | omega | (simp <;> omega))) | (go_at_call 165; refine (order_any _ _ z.natAbs 9223372036854775808 _ (HL.out ▸ HB1.out.below hbw) hvt).mono ?_; rw [HO.out]; rintro e w2 ⟨rfl, d, rfl⟩))
   go_ret2
   exact ⟨ret2 (fitV_no HNO.out).symm (fitE_no HNO.out).symm, below_drewN (HBZ.out.trans (hbw.mono (by simp))) _⟩
 ·have hok : Ok64 z := by
   have := H2.out; have := H3.out; unfold Ok64
   cases neg with
   | false => have := H3.out rfl; simp at hbig; omega
   | true => have := H2.out rfl; simp at hbig; omega
  have hbn : bv l ≤ 9223372036854775808 := by rw [HV.out]; omega
  have HOK := hH hok; clear hok
  have ho : ∃ r, ordI z.natAbs 9223372036854775808 = r ∧ (r = -1 ∨ (r = 0 ∧ neg = true)) := by
   refine ⟨_, rfl, ?_⟩
   unfold ordI
   by_cases h : z.natAbs < 9223372036854775808
   ·left; rw [if_pos h]
   ·right; refine ⟨by rw [if_neg h, if_neg (by omega)], ?_⟩
    cases neg with
    | true => rfl
    | false => simp at hbig; omega
  clear hbig hl
  have HBN := hH hbn; clear hbn
  obtain ⟨r, ho, hr⟩ := ho
  have HO := hH ho; clear ho
  have hcases : (neg = false ∧ r = -1) ∨ (neg = true ∧ r = -1) ∨ (neg = true ∧ r = 0) := by
   cases neg <;> simp_all
  clear hr
  have hbn1 : r = -1 → bv l ≤ 9223372036854775807 := fun h => by
   have := HO.out; rw [h] at this; unfold ordI at this; rw [HV.out]
   by_cases h1 : z.natAbs < 9223372036854775808
   ·omega
   ·rw [if_neg h1] at this; split at this <;> omega
  rcases hcases with ⟨rfl, rfl⟩ | ⟨rfl, rfl⟩ | ⟨rfl, rfl⟩
  all_goals have HBN1 := hH hbn1
  all_goals clear hbn1
  ·go_enter Tryz.func157, Tryz.ntmps157
   go_wp2_with (first | (go_at_call 164; refine HOF.out.mono ?_; rintro e w1 ⟨vt, rfl, hvt, hft, hbw⟩; have c0_0 := hbw.cell (p := ⟨w.heap.size, 0, none⟩) (by first | omega | (simp <;> omega)); have f0_0 := hbw.frozen (p := ⟨w.heap.size, 0, none⟩) (by first | omega | (simp <;> omega)); have c0_1 := hbw.cell (p := ⟨w.heap.size, 1, none⟩) (by first | omega | (simp <;> omega)); have f0_1 := hbw.frozen (p := ⟨w.heap.size, 1, none⟩) (by first | omega | (simp <;> omega))) | (go_at_call 165; refine (order_any _ _ z.natAbs 9223372036854775808 _ (HL.out ▸ HB1.out.below hbw) hvt).mono ?_; rw [HO.out]; rintro e w2 ⟨rfl, d, rfl⟩))
   go_loopw [6, 7] (fun m i wr => ∃ (k p : Nat), k ≤ l.length ∧ i = .int .i64 ((k : Int) - 1) ∧ m = .int .i64 (p : Int) ∧ bv (l.drop k) = p ∧ p ≤ 9223372036854775807 ∧ wr = w1.drewN d) (fun _ i _ => (intOf i + 1).toNat)
   case atStart => exact ⟨l.length, 0, Nat.le_refl _, rfl, rfl, by rw [List.drop_of_length_le (Nat.le_refl _)]; rfl, by omega, rfl⟩
   case round =>
    obtain ⟨k, p, hk, rfl, rfl, hp, hpb, rfl⟩ := hrel
    have HP := hH hp; clear hp
    by_cases h0 : 0 < k
    ·obtain ⟨j, hj⟩ : ∃ j, k = j + 1 := ⟨k - 1, by omega⟩
     subst hj
     have e1 : ((j + 1 : Nat) : Int) - 1 = j := by omega
     rw [e1]
     clear e1
     have hjl : j < l.length := by omega
     obtain ⟨x, hx⟩ := getElem?_ex hjl
     have hxb := HD.out x (List.mem_of_getElem? hx)
     have hst := bv_drop hx
     rw [HP.out] at hst
     have hle := bv_drop_le l j
     have hle2 := Nat.le_trans hle (HBN1.out (by first | rfl | trivial))
     obtain ⟨b1, o1, rfl, hb1, hc1'⟩ := HA.out j x hx
     have cx := (((Below.refl w.heap.size w).alloc (Nat.le_refl _) _).trans (hbw.mono (by simp)) |>.cell (p := ⟨b1, o1 + j, none⟩) hb1).trans hc1'
     clear hle hc1'
     obtain ⟨p', hp'⟩ : ∃ p', bv (l.drop j) = p' := ⟨_, rfl⟩
     rw [hp'] at hst hle2
     have HX := hH hx; clear hx
     have HP' := hH hp'; clear hp'
     have b1 : 65536 * (p : Int) + x ≤ 9223372036854775807 := by omega
     have HST := hH hst; clear hst
     go_wp2
     go_roundw
     case rel => exact ⟨j, p', by omega, rfl, by have := HST.out; go_num, HP'.out, hle2, by first | rfl | trivial⟩
     case measure => simp [intOf] <;> omega
    ·obtain rfl : k = 0 := by omega
     have hz : z = p := by
      have := HP.out; have := H3.out (by simp); have h5 := HV.out; have h6 := HP.out; simp at h6; omega
     have HZ := hH hz; clear hz
     go_wp2
     go_ret2
     refine ⟨ret2 (by rw [fitV_yes HOK.out]; exact HZ.out.symm) (fitE_yes HOK.out).symm, below_drewN (HBZ.out.trans (hbw.mono (by simp))) _⟩
  ·go_enter Tryz.func157, Tryz.ntmps157
   go_wp2_with (first | (go_at_call 164; refine HOF.out.mono ?_; rintro e w1 ⟨vt, rfl, hvt, hft, hbw⟩; have c0_0 := hbw.cell (p := ⟨w.heap.size, 0, none⟩) (by first | omega | (simp <;> omega)); have f0_0 := hbw.frozen (p := ⟨w.heap.size, 0, none⟩) (by first | omega | (simp <;> omega)); have c0_1 := hbw.cell (p := ⟨w.heap.size, 1, none⟩) (by first | omega | (simp <;> omega)); have f0_1 := hbw.frozen (p := ⟨w.heap.size, 1, none⟩) (by first | omega | (simp <;> omega))) | (go_at_call 165; refine (order_any _ _ z.natAbs 9223372036854775808 _ (HL.out ▸ HB1.out.below hbw) hvt).mono ?_; rw [HO.out]; rintro e w2 ⟨rfl, d, rfl⟩))
   go_loopw [6, 7] (fun m i wr => ∃ (k p : Nat), k ≤ l.length ∧ i = .int .i64 ((k : Int) - 1) ∧ m = .int .i64 (-(p : Int)) ∧ bv (l.drop k) = p ∧ p ≤ 9223372036854775808 ∧ wr = w1.drewN d) (fun _ i _ => (intOf i + 1).toNat)
   case atStart => exact ⟨l.length, 0, Nat.le_refl _, rfl, rfl, by rw [List.drop_of_length_le (Nat.le_refl _)]; rfl, by omega, rfl⟩
   case round =>
    obtain ⟨k, p, hk, rfl, rfl, hp, hpb, rfl⟩ := hrel
    have HP := hH hp; clear hp
    by_cases h0 : 0 < k
    ·obtain ⟨j, hj⟩ : ∃ j, k = j + 1 := ⟨k - 1, by omega⟩
     subst hj
     have e1 : ((j + 1 : Nat) : Int) - 1 = j := by omega
     rw [e1]
     clear e1
     have hjl : j < l.length := by omega
     obtain ⟨x, hx⟩ := getElem?_ex hjl
     have hxb := HD.out x (List.mem_of_getElem? hx)
     have hst := bv_drop hx
     rw [HP.out] at hst
     have hle := bv_drop_le l j
     have hle2 := Nat.le_trans hle HBN.out
     obtain ⟨b1, o1, rfl, hb1, hc1'⟩ := HA.out j x hx
     have cx := (((Below.refl w.heap.size w).alloc (Nat.le_refl _) _).trans (hbw.mono (by simp)) |>.cell (p := ⟨b1, o1 + j, none⟩) hb1).trans hc1'
     clear hle hc1'
     obtain ⟨p', hp'⟩ : ∃ p', bv (l.drop j) = p' := ⟨_, rfl⟩
     rw [hp'] at hst hle2
     have HX := hH hx; clear hx
     have HP' := hH hp'; clear hp'
     have b1 : 65536 * (p : Int) + x ≤ 9223372036854775808 := by omega
     have HST := hH hst; clear hst
     go_wp2
     go_roundw
     case rel => exact ⟨j, p', by omega, rfl, by have := HST.out; go_num, HP'.out, hle2, by first | rfl | trivial⟩
     case measure => simp [intOf] <;> omega
    ·obtain rfl : k = 0 := by omega
     have hz : z = -(p : Int) := by
      have := HP.out; have := H2.out (by simp); have h5 := HV.out; have h6 := HP.out; simp at h6; omega
     have HZ := hH hz; clear hz
     go_wp2
     go_ret2
     refine ⟨ret2 (by rw [fitV_yes HOK.out]; exact HZ.out.symm) (fitE_yes HOK.out).symm, below_drewN (HBZ.out.trans (hbw.mono (by simp))) _⟩
  ·go_enter Tryz.func157, Tryz.ntmps157
   go_wp2_with (first | (go_at_call 164; refine HOF.out.mono ?_; rintro e w1 ⟨vt, rfl, hvt, hft, hbw⟩; have c0_0 := hbw.cell (p := ⟨w.heap.size, 0, none⟩) (by first | omega | (simp <;> omega)); have f0_0 := hbw.frozen (p := ⟨w.heap.size, 0, none⟩) (by first | omega | (simp <;> omega)); have c0_1 := hbw.cell (p := ⟨w.heap.size, 1, none⟩) (by first | omega | (simp <;> omega)); have f0_1 := hbw.frozen (p := ⟨w.heap.size, 1, none⟩) (by first | omega | (simp <;> omega))) | (go_at_call 165; refine (order_any _ _ z.natAbs 9223372036854775808 _ (HL.out ▸ HB1.out.below hbw) hvt).mono ?_; rw [HO.out]; rintro e w2 ⟨rfl, d, rfl⟩))
   go_loopw [6, 7] (fun m i wr => ∃ (k p : Nat), k ≤ l.length ∧ i = .int .i64 ((k : Int) - 1) ∧ m = .int .i64 (-(p : Int)) ∧ bv (l.drop k) = p ∧ p ≤ 9223372036854775808 ∧ wr = w1.drewN d) (fun _ i _ => (intOf i + 1).toNat)
   case atStart => exact ⟨l.length, 0, Nat.le_refl _, rfl, rfl, by rw [List.drop_of_length_le (Nat.le_refl _)]; rfl, by omega, rfl⟩
   case round =>
    obtain ⟨k, p, hk, rfl, rfl, hp, hpb, rfl⟩ := hrel
    have HP := hH hp; clear hp
    by_cases h0 : 0 < k
    ·obtain ⟨j, hj⟩ : ∃ j, k = j + 1 := ⟨k - 1, by omega⟩
     subst hj
     have e1 : ((j + 1 : Nat) : Int) - 1 = j := by omega
     rw [e1]
     clear e1
     have hjl : j < l.length := by omega
     obtain ⟨x, hx⟩ := getElem?_ex hjl
     have hxb := HD.out x (List.mem_of_getElem? hx)
     have hst := bv_drop hx
     rw [HP.out] at hst
     have hle := bv_drop_le l j
     have hle2 := Nat.le_trans hle HBN.out
     obtain ⟨b1, o1, rfl, hb1, hc1'⟩ := HA.out j x hx
     have cx := (((Below.refl w.heap.size w).alloc (Nat.le_refl _) _).trans (hbw.mono (by simp)) |>.cell (p := ⟨b1, o1 + j, none⟩) hb1).trans hc1'
     clear hle hc1'
     obtain ⟨p', hp'⟩ : ∃ p', bv (l.drop j) = p' := ⟨_, rfl⟩
     rw [hp'] at hst hle2
     have HX := hH hx; clear hx
     have HP' := hH hp'; clear hp'
     have b1 : 65536 * (p : Int) + x ≤ 9223372036854775808 := by omega
     have HST := hH hst; clear hst
     go_wp2
     go_roundw
     case rel => exact ⟨j, p', by omega, rfl, by have := HST.out; go_num, HP'.out, hle2, by first | rfl | trivial⟩
     case measure => simp [intOf] <;> omega
    ·obtain rfl : k = 0 := by omega
     have hz : z = -(p : Int) := by
      have := HP.out; have := H2.out (by simp); have h5 := HV.out; have h6 := HP.out; simp at h6; omega
     have HZ := hH hz; clear hz
     go_wp2
     go_ret2
     refine ⟨ret2 (by rw [fitV_yes HOK.out]; exact HZ.out.symm) (fitE_yes HOK.out).symm, below_drewN (HBZ.out.trans (hbw.mono (by simp))) _⟩
end Go.Proofs.YtgobbecpnjelmaaGreat

namespace Go.Proofs.YtgobbecpnjelmaaGreat
open Go.RowKit

attribute [local go_sem ↓] Go.wp_at_zero Go.wp_at_succ

theorem Sm.ok {z : Int} (h : Ok64 z) : Sm z.natAbs := Sm.of (k := 4) (by unfold Ok64 at h; omega) (by omega)

set_option maxRecDepth 100000 in
set_option maxHeartbeats 400000 in
theorem turn_any (v : Value) (z : Int) (w : World) (h : WholeR w v z) :
  Calls Tryz.prog 160 #[v] w fun e w' => ∃ v', e = .returned v' ∧ WholeR w' v' (-z) ∧ Below w.heap.size w w' := by
 obtain ⟨neg, vb, rfl, h1, h2, h3⟩ := h
 have H1 := hH h1
 obtain ⟨a, c, rfl, _, _, _, _⟩ := h1
 have H2 := hH h2; clear h2
 have H3 := hH h3; clear h3
 go_enter Tryz.func160, Tryz.ntmps160
 go_wp2
 refine bodyPost_ret (v := .agg #[.bool (!neg), .slice a (digs z.natAbs).length c]) (by simp [results, Tryz.results160, go_sem, *]) rfl ⟨_, rfl, ⟨_, _, rfl, ?_, fun h => ?_, fun h => ?_⟩, ?_⟩
 ·rw [Int.natAbs_neg]
  exact H1.out.below bw
 ·have := H3.out (by simpa using h); omega
 ·have := H2.out (by simpa using h); omega
 ·(repeat (first | with_reducible exact Below.refl _ _ | with_reducible refine Bs ?_ | with_reducible refine Ba ?_ | with_reducible refine Bd ?_ | with_reducible refine Bn ?_))

end Go.Proofs.YtgobbecpnjelmaaGreat

namespace Go.Proofs.YtgobbecpnjelmaaGreat
open Go.RowKit

attribute [local go_sem ↓] Go.wp_at_zero Go.wp_at_succ

set_option maxHeartbeats 400000 in
theorem rsub_any (a b : Int) (w : World) (ha : Ok64 a) (hb : Ok64 b) :
  Calls Tryz.prog 151 #[.int .i64 a, .int .i64 b] w fun e w' => FitB w e w' (a - b) := by
 have SA := hH (Sm.ok ha)
 have SB : Hid (Sm (-b).natAbs) := by rw [Int.natAbs_neg]; exact Sm.ok hb
 go_enter Tryz.func151, Tryz.ntmps151
 go_wp2_with fail
 refine (int_any a _ ha.1 ha.2).mono ?_
 rintro e w1 ⟨v1, rfl, hv1, _, hb1⟩
 go_wp2_with fail
 refine (int_any b _ hb.1 hb.2).mono ?_
 rintro e w2 ⟨v2, rfl, hv2, _, hb2⟩
 go_wp2_with fail
 refine (turn_any v2 b _ hv2).mono ?_
 rintro e w5 ⟨v5, rfl, hv5, hb5⟩
 go_wp2_with fail
 refine (both_any v1 v5 a (-b) _ ((hv1.below hb2).below hb5) hv5 SA.out SB.out).mono ?_
 rintro e w3 ⟨v3, rfl, hv3, _, hb3⟩
 rw [← Int.sub_eq_add_neg] at hv3
 go_wp2_with fail
 refine (fits_any v3 _ _ hv3).mono ?_
 rintro e w4 ⟨rfl, hb4⟩
 go_wp2
 go_ret2
 exact ⟨rfl, hb1.trans ((hb2.trans ((hb5.trans ((hb3.trans (hb4.mono hb3.size)).mono hb5.size)).mono hb2.size)).mono hb1.size)⟩

end Go.Proofs.YtgobbecpnjelmaaGreat

namespace Go.Proofs.YtgobbecpnjelmaaGreat
open Go.RowKit

theorem gcdZ_step (x y : Int) : gcdZ x y = gcdZ y (x.tmod y) := by
 unfold gcdZ
 rw [Int.natAbs_tmod, gcd_step]

set_option maxHeartbeats 800000 in
theorem rgcd_any (a b : Int) (w : World) (ha : Ok64 a) (hb : Ok64 b) :
  Calls Tryz.prog 139 #[.int .i64 a, .int .i64 b] w fun e w' => e = .returned (.tuple #[.int .i64 (fitV (gcdZ a b)), .int .i64 (fitE (gcdZ a b))]) ∧ Below w.heap.size w w' := by
 go_enter Tryz.func139, Tryz.ntmps139
 go_wp2
 go_loopw [6, 7] (fun x y wr => ∃ (p q : Int), x = .int .i64 p ∧ y = .int .i64 q ∧ Ok64 p ∧ Ok64 q ∧ gcdZ p q = gcdZ a b ∧ ∃ n, wr = w.drewN n) (fun _ y _ => (intOf y).natAbs)
 case atStart => exact ⟨_, _, rfl, rfl, ha, hb, rfl, 0, rfl⟩
 case round =>
  obtain ⟨p, q, rfl, rfl, hp, hq, hg, n, rfl⟩ := hrel
  have HG := hH hg; clear hg
  have HP := hH hp
  have HQ := hH hq
  unfold Ok64 at hp hq
  by_cases h0 : q = 0
  ·subst h0
   have hz : gcdZ a b = p.natAbs := by rw [← HG.out]; simp [gcdZ]
   have HZ := hH hz; clear hz
   by_cases hn : p < 0
   ·have hs : ∀ W : World, Calls Tryz.prog 151 #[.int .i64 0, .int .i64 p] W fun e w' => FitB W e w' (gcdZ a b) := fun W => by
     have := rsub_any 0 p W (by unfold Ok64; omega) HP.out
     rwa [show 0 - p = gcdZ a b by rw [HZ.out]; omega] at this
    have HS := hH hs; clear hs
    go_wp2_with (go_at_call 151; refine (HS.out _).mono ?_; rintro e w1 ⟨rfl, hbw⟩)
    go_ret2
    exact ⟨rfl, (below_drewN (Below.refl _ _) n).trans hbw⟩
   ·have hok : Ok64 (gcdZ a b) := by rw [HZ.out]; unfold Ok64; omega
    have HOK := hH hok; clear hok
    go_wp2
    go_ret2
    exact ⟨ret2 (by rw [fitV_yes HOK.out, HZ.out]; omega) (fitE_yes HOK.out).symm, bw⟩
  ·have hnb : (q != 0) = true := by simp [h0]
   by_cases h1 : q = -1
   ·subst h1
    have hz : gcdZ a b = 1 := by rw [← HG.out]; simp [gcdZ]
    have hok : Ok64 (gcdZ a b) := by rw [hz]; unfold Ok64; omega
    have HZ := hH hz; clear hz
    have HOK := hH hok; clear hok
    go_wp2
    go_ret2
    exact ⟨ret2 (by rw [fitV_yes HOK.out, HZ.out]) (fitE_yes HOK.out).symm, bw⟩
   ·have hqb : (q == -1) = false := by simp [h1]
    have k2 := tmod_bd (a := p) h0
    have K2 := hH k2
    have hok : Ok64 (p.tmod q) := by unfold Ok64; omega
    have HOK := hH hok; clear hok
    go_wp2
    go_quiet (fail)
    go_wp2
    go_roundw
    case rel => exact ⟨q, p.tmod q, rfl, rfl, HQ.out, HOK.out, by rw [← gcdZ_step, HG.out], _, World.drewN_drewN _ _ _⟩
    case measure => have := Nat.mod_lt p.natAbs (show 0 < q.natAbs by omega); simp [intOf, Int.natAbs_tmod]; omega

end Go.Proofs.YtgobbecpnjelmaaGreat

namespace Go.Proofs.YtgobbecpnjelmaaGreat
open Go.RowKit

theorem gcd_small {p q : Int} (hq : 1 ≤ q ∧ q ≤ 16) : 0 ≤ gcdZ p q ∧ gcdZ p q ≤ 16 := by
 unfold gcdZ
 have := Nat.gcd_le_right p.natAbs (n := q.natAbs) (by omega)
 omega

theorem scoreB_fail {p q : Int} (h : ¬ ((1 ≤ q ∧ q ≤ 16) ∧ (0 ≤ p ∧ p ≤ 274877906944))) : scoreB (p, q) = false := by
 unfold scoreB
 exact decide_eq_false (fun hh => h ⟨hh.1, hh.2.1⟩)

theorem scoreB_gcd {p q : Int} (h : (1 ≤ q ∧ q ≤ 16) ∧ (0 ≤ p ∧ p ≤ 274877906944)) : (gcdZ p q == 1) = scoreB (p, q) := by
 unfold scoreB
 by_cases e : gcdZ p q = 1
 ·rw [decide_eq_true ⟨h.1, h.2, e⟩, e]; rfl
 ·rw [decide_eq_false (fun hh => e hh.2.2)]
  simp [e]

set_option maxRecDepth 100000 in
set_option maxHeartbeats 4000000 in
theorem sis_any (p q : Int) (w : World) : Calls Tryz.prog 121 #[.agg #[.int .i64 p, .int .i64 q]] w fun e w' => e = .returned (.bool (scoreB (p, q))) ∧ Below w.heap.size w w' := by
 by_cases h0 : q < 1
 ·have HB := hH (scoreB_fail (p := p) (q := q) (by omega))
  go_enter Tryz.func121, Tryz.ntmps121
  go_wp2_with fail
  go_ret
  exact ⟨ret_bool HB.out.symm, bw⟩
 ·have g0 : 1 ≤ q := by omega
  by_cases h1 : 16 < q
  ·have HB := hH (scoreB_fail (p := p) (q := q) (by omega))
   go_enter Tryz.func121, Tryz.ntmps121
   go_wp2_with fail
   go_ret
   exact ⟨ret_bool HB.out.symm, bw⟩
  ·have g1 : q ≤ 16 := by omega
   by_cases h2 : p < 0
   ·have HB := hH (scoreB_fail (p := p) (q := q) (by omega))
    go_enter Tryz.func121, Tryz.ntmps121
    go_wp2_with fail
    go_ret
    exact ⟨ret_bool HB.out.symm, bw⟩
   ·have g2 : 0 ≤ p := by omega
    by_cases h3 : 274877906944 < p
    ·have HB := hH (scoreB_fail (p := p) (q := q) (by omega))
     go_enter Tryz.func121, Tryz.ntmps121
     go_wp2_with fail
     go_ret
     exact ⟨ret_bool HB.out.symm, bw⟩
    ·have g3 : p ≤ 274877906944 := by omega
     have HB := hH (scoreB_gcd (p := p) (q := q) (by omega))
     have hg := gcd_small (p := p) (q := q) (by omega)
     have HG := hH (fun W => gcd_any p q W (by unfold Ok64; omega) (by unfold Ok64; omega))
     rw [fitV_yes (by unfold Ok64; omega), fitE_yes (by unfold Ok64; omega)] at HG
     clear hg
     generalize gcdZ p q = G at *
     go_enter Tryz.func121, Tryz.ntmps121
     go_wp2_with fail
     (with_reducible refine (HG.out _).mono ?_)
     rintro e w1 ⟨rfl, d1, rfl⟩
     go_wp2_with fail
     go_ret
     exact ⟨ret_bool HB.out, bw⟩

set_option maxRecDepth 100000 in
set_option maxHeartbeats 4000000 in
theorem ris13_any (p q : Int) (w : World) : Calls Tryz.prog 126 #[.agg #[.int .i64 p, .int .i64 q]] w fun e w' => e = .returned (.bool (scoreB (p, q))) ∧ Below w.heap.size w w' := by
 by_cases h0 : q < 1
 ·have HB := hH (scoreB_fail (p := p) (q := q) (by omega))
  go_enter Tryz.func126, Tryz.ntmps126
  go_wp2_with fail
  go_ret
  exact ⟨ret_bool HB.out.symm, bw⟩
 ·have g0 : 1 ≤ q := by omega
  by_cases h1 : 16 < q
  ·have HB := hH (scoreB_fail (p := p) (q := q) (by omega))
   go_enter Tryz.func126, Tryz.ntmps126
   go_wp2_with fail
   go_ret
   exact ⟨ret_bool HB.out.symm, bw⟩
  ·have g1 : q ≤ 16 := by omega
   by_cases h2 : p < 0
   ·have HB := hH (scoreB_fail (p := p) (q := q) (by omega))
    go_enter Tryz.func126, Tryz.ntmps126
    go_wp2_with fail
    go_ret
    exact ⟨ret_bool HB.out.symm, bw⟩
   ·have g2 : 0 ≤ p := by omega
    by_cases h3 : 274877906944 < p
    ·have HB := hH (scoreB_fail (p := p) (q := q) (by omega))
     go_enter Tryz.func126, Tryz.ntmps126
     go_wp2_with fail
     go_ret
     exact ⟨ret_bool HB.out.symm, bw⟩
    ·have g3 : p ≤ 274877906944 := by omega
     have HB := hH (scoreB_gcd (p := p) (q := q) (by omega))
     have hg := gcd_small (p := p) (q := q) (by omega)
     have HG := hH (fun W => rgcd_any p q W (by unfold Ok64; omega) (by unfold Ok64; omega))
     rw [fitV_yes (by unfold Ok64; omega), fitE_yes (by unfold Ok64; omega)] at HG
     clear hg
     generalize gcdZ p q = G at *
     go_enter Tryz.func126, Tryz.ntmps126
     go_wp2_with fail
     (with_reducible refine (HG.out _).mono ?_); rintro e w1 ⟨rfl, b1⟩; have s1 : w.heap.size ≤ w1.heap.size := sz b1; have B1 := hJ w b1; clear b1
     go_wp2_with fail
     go_ret
     exact ⟨ret_bool HB.out, bx B1.out⟩

set_option maxRecDepth 100000 in
set_option maxHeartbeats 4000000 in
theorem odder_any (p q r s : Int) (w : World) (hp : Ok64 p) (hq : Ok64 q) (hr : Ok64 r) (hs : Ok64 s) :
  Calls Tryz.prog 116 #[.agg #[.int .i64 p, .int .i64 q], .agg #[.int .i64 r, .int .i64 s]] w fun e w' => e = .returned (.int .i64 (oddI (p, q) (r, s))) ∧ Below w.heap.size w w' := by
 have HP := hH (fun W => wProds_any r q p s W hr hq hp hs)
 rw [show prodsI r q p s = oddI (p, q) (r, s) from prods_odd (p, q) (r, s)] at HP
 generalize oddI (p, q) (r, s) = R at *
 clear hp hq hr hs
 go_enter Tryz.func116, Tryz.ntmps116
 go_wp2_with fail
 (with_reducible refine (HP.out _).mono ?_); rintro e w1 ⟨rfl, b1⟩; have s1 : w.heap.size ≤ w1.heap.size := sz b1; have B1 := hJ w b1; clear b1
 go_wp2_with fail
 go_ret
 exact ⟨rfl, bx B1.out⟩

theorem odd_case (p q r s : Int) : (p * s < r * q ∧ oddI (p, q) (r, s) = 1) ∨ (¬ p * s < r * q ∧ r * q < p * s ∧ oddI (p, q) (r, s) = -1) ∨ (¬ p * s < r * q ∧ ¬ r * q < p * s ∧ oddI (p, q) (r, s) = 0) := by
 unfold oddI
 dsimp only
 split
 ·exact .inl ⟨by assumption, rfl⟩
 ·split
  ·exact .inr (.inl ⟨by assumption, by assumption, rfl⟩)
  ·exact .inr (.inr ⟨by assumption, by assumption, rfl⟩)

theorem mul_small {p s : Int} (h1 : 0 ≤ p ∧ p ≤ 274877906944) (h2 : 0 ≤ s ∧ s ≤ 16) : 0 ≤ p * s ∧ p * s ≤ 4398046511104 := by
 refine ⟨Int.mul_nonneg h1.1 h2.1, ?_⟩
 have := Int.mul_le_mul h1.2 h2.2 h2.1 (by omega)
 omega

theorem wrap_ok {z : Int} (h : 0 ≤ z ∧ z ≤ 4398046511104) : wrap64 z = z := by unfold wrap64; omega

set_option maxRecDepth 100000 in
set_option maxHeartbeats 4000000 in
theorem rodder_any (p q r s : Int) (w : World) (hp : 0 ≤ p ∧ p ≤ 274877906944) (hq : 0 ≤ q ∧ q ≤ 16) (hr : 0 ≤ r ∧ r ≤ 274877906944) (hs : 0 ≤ s ∧ s ≤ 16) :
  Calls Tryz.prog 119 #[.agg #[.int .i64 p, .int .i64 q], .agg #[.int .i64 r, .int .i64 s]] w fun e w' => e = .returned (.int .i64 (oddI (p, q) (r, s))) ∧ Below w.heap.size w w' := by
 have h1 := mul_small hp hs
 have h2 := mul_small hr hq
 clear hp hq hr hs
 rcases odd_case p q r s with ⟨g, e⟩ | ⟨g, g', e⟩ | ⟨g, g', e⟩ <;>
 ·rw [e]
  clear e
  have e1 := wrap_ok h1
  have e2 := wrap_ok h2
  have H1 := hH h1
  have H2 := hH h2
  clear h1 h2
  go_enter Tryz.func119, Tryz.ntmps119
  go_wp2_with fail
  go_ret
  exact ⟨rfl, bw⟩

set_option maxRecDepth 100000 in
set_option maxHeartbeats 4000000 in
theorem scmp_any (p q r s : Int) (w : World) :
  Calls Tryz.prog 124 #[.agg #[.int .i64 p, .int .i64 q], .agg #[.int .i64 r, .int .i64 s]] w fun e w' => e = .returned (.tuple #[.int .i64 (if scoreB (p, q) && scoreB (r, s) then oddI (p, q) (r, s) else 0), .int .i64 (if scoreB (p, q) && scoreB (r, s) then 0 else 130)]) ∧ Below w.heap.size w w' := by
 have H1 := hH (fun W => sis_any p q W)
 have H2 := hH (fun W => sis_any r s W)
 have H3 := hH (fun (h1 : scoreB (p, q) = true) (h2 : scoreB (r, s) = true) W => odder_any p q r s W (by have := scoreB_is.1 h1; unfold Ok64; omega) (by have := scoreB_is.1 h1; unfold Ok64; omega) (by have := scoreB_is.1 h2; unfold Ok64; omega) (by have := scoreB_is.1 h2; unfold Ok64; omega))
 generalize oddI (p, q) (r, s) = R at *
 cases hb : scoreB (p, q) with
 | false =>
  rw [hb] at H1
  clear H3 H2 hb
  simp only [Bool.false_and, Bool.false_eq_true, if_false]
  go_enter Tryz.func124, Tryz.ntmps124
  go_wp2_with fail
  (with_reducible refine (H1.out _).mono ?_); rintro e w1 ⟨rfl, b1⟩; have s1 : w.heap.size + 1 + 1 ≤ w1.heap.size := sz b1; have B1 := hJ w b1; have c1_0 : w1.cell? ⟨w.heap.size, 0, none⟩ = some (.int .i64 p) := kC b1; obtain ⟨l1_0, n1_0, m1_0⟩ := lnm (show w.heap.size < w1.heap.size by omega); clear b1
  go_wp2_with fail
  go_ret2
  exact ⟨rfl, bx B1.out⟩
 | true =>
  cases hb2 : scoreB (r, s) with
  | false =>
   rw [hb] at H1
   rw [hb2] at H2
   clear H3 hb hb2
   simp only [Bool.and_false, Bool.false_eq_true, if_false]
   go_enter Tryz.func124, Tryz.ntmps124
   go_wp2_with fail
   (with_reducible refine (H1.out _).mono ?_); rintro e w1 ⟨rfl, b1⟩; have s1 : w.heap.size + 1 + 1 ≤ w1.heap.size := sz b1; have B1 := hJ w b1; obtain ⟨c1_0, c1_1⟩ := k2 (w.heap.size + 1) (.int .i64 r) (.int .i64 s) b1 aJ; obtain ⟨l1_0, n1_0, m1_0⟩ := lnm (show w.heap.size + 1 < w1.heap.size by omega); clear b1
   go_wp2_with fail
   (with_reducible refine (H2.out _).mono ?_); rintro e w2 ⟨rfl, b2⟩; have s2 : w1.heap.size ≤ w2.heap.size := sz b2; have B2 := bJ B1.out b2; clear b2
   go_wp2_with fail
   go_ret2
   exact ⟨rfl, bx B2.out⟩
  | true =>
   have H4 := hH (H3.out hb hb2)
   rw [hb] at H1
   rw [hb2] at H2
   clear H3 hb hb2
   simp only [Bool.and_true, if_true]
   go_enter Tryz.func124, Tryz.ntmps124
   go_wp2_with fail
   (with_reducible refine (H1.out _).mono ?_); rintro e w1 ⟨rfl, b1⟩; have s1 : w.heap.size + 1 + 1 ≤ w1.heap.size := sz b1; have B1 := hJ w b1; obtain ⟨c1_0, c1_1⟩ := k2 (w.heap.size) (.int .i64 p) (.int .i64 q) b1 aJ; obtain ⟨c1_2, c1_3⟩ := k2 (w.heap.size + 1) (.int .i64 r) (.int .i64 s) b1 aJ; obtain ⟨l1_0, n1_0, m1_0⟩ := lnm (show w.heap.size < w1.heap.size by omega); obtain ⟨l1_1, n1_1, m1_1⟩ := lnm (show w.heap.size + 1 < w1.heap.size by omega); clear b1
   go_wp2_with fail
   (with_reducible refine (H2.out _).mono ?_); rintro e w2 ⟨rfl, b2⟩; have s2 : w1.heap.size ≤ w2.heap.size := sz b2; have B2 := bJ B1.out b2; obtain ⟨c2_0, c2_1⟩ := k2 (w.heap.size) (.int .i64 p) (.int .i64 q) b2 aJ; obtain ⟨c2_2, c2_3⟩ := k2 (w.heap.size + 1) (.int .i64 r) (.int .i64 s) b2 aJ; obtain ⟨l2_0, n2_0, m2_0⟩ := lnm (show w.heap.size < w2.heap.size by omega); obtain ⟨l2_1, n2_1, m2_1⟩ := lnm (show w.heap.size + 1 < w2.heap.size by omega); clear b2
   go_wp2_with fail
   (with_reducible refine (H4.out _).mono ?_); rintro e w3 ⟨rfl, b3⟩; have s3 : w2.heap.size ≤ w3.heap.size := sz b3; have B3 := bJ B2.out b3; clear b3
   go_wp2_with fail
   go_ret2
   exact ⟨rfl, bx B3.out⟩
end Go.Proofs.YtgobbecpnjelmaaGreat

namespace Go.Proofs.YtgobbecpnjelmaaGreat
open Go.RowKit

end Go.Proofs.YtgobbecpnjelmaaGreat

namespace Go.Proofs.YtgobbecpnjelmaaGreat
open Go.RowKit

theorem appInts_step {P : Program} {ops : Array Oper} {o : Oper} {a : Act} {K : Act → World → Prop} {Q : Exit → Act → World → Prop} {E : Prop} (hgd : o.guard = none) (s x : Operand) (t : TypeId)
  (ho : o.op = .call { callee := .builtin .append, args := #[s, x], argTypes := #[t, t] })
  {e : TypeId} {z : Value} {bytes : Nat} (ht : P.underlying t = some (.slice e)) (hE : EI P e z 1 bytes)
  (base : Nat) {v : Value} {n : Nat} {xs : List Value} {W : World} {k : IntKind} {vx : Value} {l : List Int} (hs : a.eval s = v) (hown : W.ownsRow base e 1 v n xs)
  (hx : a.eval x = vx) (hl : Ints k W vx l) (hbytes : (n + l.length) * bytes ≤ 140737488355328) (hbase : base ≤ W.heap.size)
  (h : ∀ v' w', w'.ownsRow base e 1 v' (n + l.length) (xs ++ l.map (Value.int k)) → Below base W w' → (∀ q, q < W.heap.size → v.ownBlock ≠ some q → w'.heap[q]? = W.heap[q]?) → K (a.put o.dst v') w') :
  if Region.wanted o (yielded ops a.tmps) = true then o.wp P a W K Q else E := by
 have hw : Region.wanted o (yielded ops a.tmps) = true := by unfold Region.wanted; rw [hgd]
 rw [if_pos hw]
 obtain ⟨i, hi, hz, hsize, hby, hzs, hsz, hbp⟩ := hE
 have h63 : n + l.length ≤ 140737488355328 := Nat.le_trans (Nat.le_mul_of_pos_right _ hbp) hbytes
 obtain ⟨ad, c, rfl, g1, g2, g3, h4⟩ := hl
 rcases ad with _ | ad
 ·have hl0 : l = [] := by
   cases l with
   | nil => rfl
   | cons x l => obtain ⟨b, o, e, _⟩ := h4 0 x rfl; cases e
  subst hl0
  have hrun : (Builtin.append_ #[t, t] o.type #[v, .slice none 0 c]).run P W = .ok v W := by
   rcases hown.2 with ⟨rfl, rfl⟩ | ⟨g, cap, cur, rfl, _, _, hnc, _⟩
   ·simp [Builtin.append_, run_underlying ht, sizeOf, typeInfo, hi, Builtin.lenOf, Builtin.firstCells]
   ·simp [Builtin.append_, run_underlying ht, sizeOf, typeInfo, hi, Builtin.lenOf, Builtin.firstCells, hnc, storeCells]
  unfold Oper.wp execOp
  simp only [ho, resolve, invoke, builtin, Sem.run_bind, Sem.run_pure, Result.andThen_ok, List.map_toArray, List.map_cons, List.map_nil, hs, hx, List.length_nil, hrun]
  exact h v W (by simpa using hown) (Below.refl _ _) fun _ _ _ => rfl
 ·obtain ⟨v', w', hrun, h2, h3, _⟩ := run_append_own_at (P := P) W base t o.type e i z 1 bytes ht hi hz hsize hby hzs hsz v n xs hown ad l.length c (l.map (Value.int k)) (by simp) (by
   intro j u hu
   rw [List.getElem?_map] at hu
   cases hy : l[j]? with
   | none => rw [hy] at hu; cases hu
   | some y =>
    rw [hy] at hu
    obtain ⟨b, o, e, _, hc⟩ := h4 j y hy
    injection e with e
    subst e
    have hadd : (⟨b, o, none⟩ : Addr).add j = ⟨b, o + j, none⟩ := by unfold Addr.add; split <;> simp_all
    rw [hadd, hc]
    simpa using hu) (by intro u hu; obtain ⟨y, _, rfl⟩ := List.mem_map.1 hu; rfl) (by unfold maxLen; omega) hbytes hbase
  unfold Oper.wp execOp
  simp only [ho, resolve, invoke, builtin, Sem.run_bind, Sem.run_pure, Result.andThen_ok, List.map_toArray, List.map_cons, List.map_nil, hs, hx, hrun]
  exact h v' w' h2 ((Below.refl _ _).grown h3 hbase fun k hk => (hown.lt k hk).1) (fun q hq hne => h3.block q hq (fun h => hne h.symm))
end Go.Proofs.YtgobbecpnjelmaaGreat

namespace Go.Proofs.YtgobbecpnjelmaaGreat
open Go.RowKit

def natsB (l : List Int) : List Int := l.flatMap fun x => putsU x.toNat

theorem u64_wrap {z : Int} (h : 0 ≤ z) (h' : z ≤ 18446744073709551615) : IntKind.u64.wrap z = z := by
 rw [IntKind.wrap_u64]
 omega

theorem newI2 (y z : Int) (W : World) (T : TypeId) (b : Nat) (hb : b = W.heap.size) : Ints .i64 (W.alloc (.cells #[.int .i64 y, .int .i64 z] T)) (.slice (some ⟨b, 0, none⟩) 2 2) [y, z] :=
 Ints.new' .i64 W T #[.int .i64 y, .int .i64 z] [y, z] b 2 2 hb rfl rfl (by omega) (by omega)

theorem natsB_len (l : List Int) : (natsB l).length ≤ 9 * l.length := by
 induction l with
 | nil => simp [natsB]
 | cons x l ih =>
  have := putsU_len (n := x.toNat)
  simp only [natsB, List.flatMap_cons, List.length_append, List.length_cons] at ih ⊢
  omega

theorem natsB_next {l : List Int} {k : Nat} {x : Int} (h : l[k]? = some x) : natsB (l.take (k + 1)) = natsB (l.take k) ++ putsU x.toNat := by
 unfold natsB
 rw [take_snoc' h, List.flatMap_append]
 simp

theorem OwnB.ints' {w : World} {base : Nat} {v : Value} {l : List Int} (h : OwnB w base v l) (hl : l.length ≤ 1000000) : Ints .u8 w v l := (Ints.own h (by omega)).2

set_option maxRecDepth 100000 in
set_option maxHeartbeats 4000000 in
theorem nats_any (v : Value) (pre : List Int) (vl : Value) (ls : List Int) (w : World) (h : Ints .u8 w v pre) (hl : Ints .i64 w vl ls) (h0 : ∀ x ∈ ls, 0 ≤ x ∧ x ≤ 9223372036854775807) (hb : pre.length + 9 * ls.length ≤ 900000) :
  Calls Tryz.prog 89 #[v, vl] w fun e w' => ∃ v', e = .returned v' ∧ Ints .u8 w' v' (pre ++ natsB ls) ∧ Below w.heap.size w w' := by
 have HP := hH h
 have H0 := hH h0
 obtain ⟨ad, c, rfl, q1, q2, q3, hx⟩ := hl
 have HX := hH hx
 obtain ⟨n, hn⟩ : ∃ n, ls.length = n := ⟨_, rfl⟩
 rw [hn] at q1 q3 hb ⊢
 have HN := hH hn
 obtain ⟨pa, pc, rfl⟩ := h.shape
 clear h h0 hx hn
 go_enter Tryz.func89, Tryz.ntmps89
 go_wp2_with fail
 go_loopw [0, 9] (fun b i wr => ∃ k : Nat, i = .int .i64 k ∧ k ≤ n ∧ Ints .u8 wr b (pre ++ natsB (ls.take k)) ∧ Below w.heap.size w wr) (fun _ i _ => n - (intOf i).toNat)
 case atStart => exact ⟨0, rfl, by omega, by simpa [natsB] using HP.out, bw⟩
 case round =>
  obtain ⟨k, rfl, hk, hi, hbr⟩ := hrel
  have HI := hH hi
  have HBR := hH hbr
  have i1 : (0 : Int) ≤ (k : Int) := by omega
  obtain ⟨ba, bc, rfl⟩ := hi.shape
  have hsz := hbr.size
  have hlb : (pre ++ natsB (ls.take k)).length ≤ 999990 := by
   have := natsB_len (ls.take k)
   rw [List.length_append]
   rw [List.length_take] at this
   omega
  obtain ⟨bl, hbl⟩ : ∃ bl, (pre ++ natsB (ls.take k)).length = bl := ⟨_, rfl⟩
  rw [hbl] at HI hlb ⊢
  have hlb2 : bl + 9 ≤ 1000000 := by omega
  have HBL := hH hbl
  clear hbl hi
  by_cases hlt : k < n
  ·obtain ⟨x, hx⟩ := getElem?_ex (l := ls) (k := k) (by rw [HN.out]; exact hlt)
   obtain ⟨b, o, rfl, hbw, c0⟩ := HX.out k x hx
   have e0 := (hbr.cell (p := ⟨b, o + k, none⟩) hbw).trans c0
   have hx0 := H0.out x (List.mem_of_getElem? hx)
   obtain ⟨m, rfl⟩ : ∃ m : Nat, x = (m : Int) := ⟨x.toNat, by omega⟩
   have i2 : (k : Int) < (n : Int) := by omega
   have HK := hH (natsB_next hx)
   have HU := hH (fun W (hW : Ints .u8 W (.slice ba bl bc) (pre ++ natsB (ls.take k))) => putU_any _ _ m W hW (by rw [HBL.out]; exact hlb) (by omega))
   have hm : (m : Int) ≤ 18446744073709551615 := by omega
   clear hbr c0 hx hx0
   go_wp2_with fail
   (with_reducible refine (HU.out _ HI.out).mono ?_)
   rintro e w4 ⟨v4, rfl, o4, b4⟩
   have O4 := hH (o4.ints' (by have := putsU_len (n := m); rw [List.length_append, HBL.out]; omega))
   have B4 := hH (show Below wr.heap.size wr w4 from below_tr bw (b4.mono mJ))
   clear b4 o4
   go_wp2_with fail
   go_roundw
   case rel => exact ⟨k + 1, by go_num, by omega, by rw [HK.out, ← List.append_assoc]; exact O4.out, by (repeat (first | with_reducible exact Below.refl _ _ | with_reducible refine Bs ?_ | with_reducible refine Ba ?_ | with_reducible refine Bd ?_ | with_reducible refine Bn ?_ | with_reducible refine Bt B4.out ?_ | with_reducible refine Bt HBR.out ?_))⟩
   case measure => simp [intOf] <;> omega
  ·obtain rfl : k = n := by omega
   have htk : ls.take k = ls := List.take_of_length_le (by rw [HN.out]; exact Nat.le_refl _)
   rw [htk] at HI
   clear htk hbr
   go_wp2_with fail
   go_ret
   exact ⟨_, rfl, HI.out, HBR.out⟩

set_option maxRecDepth 100000 in
set_option maxHeartbeats 4000000 in
theorem putScore_any (v : Value) (pre : List Int) (p q : Int) (w : World) (h : Ints .u8 w v pre) (hb : pre.length ≤ 800000) :
  Calls Tryz.prog 92 #[v, .agg #[.int .i64 p, .int .i64 q]] w fun e w' => ∃ v', e = .returned v' ∧ Ints .u8 w' v' (pre ++ scoreBytes (p, q)) ∧ Below w.heap.size w w' := by
 have HX := hH h
 obtain ⟨pa, pc, rfl⟩ := h.shape
 have HI := hH (fun W => sis_any p q W)
 cases hs : scoreB (p, q) with
 | false =>
  have HC := hH (fun W (hW : Ints .u8 W (.slice pa pre.length pc) pre) => clone8_any _ pre W hW (by omega))
  have HSB := hH (show scoreBytes (p, q) = [] by unfold scoreBytes; rw [hs]; rfl)
  rw [hs] at HI
  clear hs h
  obtain ⟨n, hn⟩ : ∃ n, pre.length = n := ⟨_, rfl⟩
  have HN := hH hn
  rw [hn] at HX HC hb ⊢
  clear hn
  go_enter Tryz.func92, Tryz.ntmps92
  go_wp2_with fail
  (with_reducible refine (HI.out _).mono ?_); rintro e w1 ⟨rfl, b1⟩; have s1 : w.heap.size + 1 ≤ w1.heap.size := sz b1; have B1 := hJ w b1; clear b1
  go_wp2_with fail
  (with_reducible refine (HC.out _ (HX.out.below (bx B1.out))).mono ?_)
  rintro e w2 ⟨v2, rfl, o2, b2⟩
  have B2 := hH (below_tr B1.out (b2.mono (by omega)))
  go_wp2_with fail
  go_ret
  exact ⟨_, rfl, by rw [HSB.out, List.append_nil]; exact (Ints.own o2 (by have := HN.out; omega)).2, B2.out⟩
 | true =>
  have hr := scoreB_is.1 hs
  have HN2 := hH (fun (vl : Value) W (hW : Ints .u8 W (.slice pa pre.length pc) pre) (hl : Ints .i64 W vl [p, q]) => nats_any _ pre vl [p, q] W hW hl (by intro x hx; simp at hx; dsimp only at hr; rcases hx with rfl | rfl <;> omega) (by simp; omega))
  have HSB := hH (show scoreBytes (p, q) = natsB [p, q] by unfold scoreBytes natsB; rw [if_pos hs]; simp)
  rw [hs] at HI
  clear hs h hr
  generalize pre.length = n at *
  go_enter Tryz.func92, Tryz.ntmps92
  go_wp2_with fail
  (with_reducible refine (HI.out _).mono ?_); rintro e w1 ⟨rfl, b1⟩; have s1 : w.heap.size + 1 ≤ w1.heap.size := sz b1; have B1 := hJ w b1; obtain ⟨c1_0, c1_1⟩ := k2 (w.heap.size) (.int .i64 p) (.int .i64 q) b1 aJ; obtain ⟨l1_0, n1_0, m1_0⟩ := lnm (show w.heap.size < w1.heap.size by omega); clear b1
  go_wp2_with fail
  (with_reducible refine (HN2.out _ _ ?_ (newI2 p q w1 3 w1.heap.size rfl)).mono ?_)
  ·exact HX.out.below (bx B1.out)
  rintro e w2 ⟨v2, rfl, i2, b2⟩
  have I2 := hH i2
  have B2 := hH (show Below w.heap.size w w2 from below_tr (bx B1.out) (b2.mono (by simp; omega)))
  clear i2 b2
  go_wp2_with fail
  go_ret
  exact ⟨_, rfl, by rw [HSB.out]; exact I2.out, B2.out⟩

set_option maxRecDepth 100000 in
set_option maxHeartbeats 4000000 in
theorem rscore22_any (p q : Int) (w : World) :
  Calls Tryz.prog 96 #[.agg #[.int .i64 p, .int .i64 q]] w fun e w' => ∃ v', e = .returned v' ∧ Ints .u8 w' v' (scoreBytes (p, q)) ∧ Below w.heap.size w w' := by
 have HI := hH (fun W => ris13_any p q W)
 cases hs : scoreB (p, q) with
 | false =>
  have HSB := hH (show scoreBytes (p, q) = [] by unfold scoreBytes; rw [hs]; rfl)
  rw [hs] at HI
  clear hs
  go_enter Tryz.func96, Tryz.ntmps96
  go_wp2_with fail
  (with_reducible refine (HI.out _).mono ?_); rintro e w1 ⟨rfl, b1⟩; have s1 : w.heap.size + 1 ≤ w1.heap.size := sz b1; have B1 := hJ w b1; clear b1
  go_wp2_with fail
  go_ret
  exact ⟨_, rfl, by rw [HSB.out]; exact ints_nil _ _ _ _ (by omega), bx B1.out⟩
 | true =>
  have hr := scoreB_is.1 hs
  have HSB := hH (show scoreBytes (p, q) = putsU p.toNat ++ putsU q.toNat by unfold scoreBytes; rw [if_pos hs])
  obtain ⟨⟨g1, g2⟩, ⟨g3, g4⟩, _⟩ := hr
  dsimp only at g1 g2 g3 g4
  obtain ⟨P, rfl⟩ : ∃ P : Nat, p = (P : Int) := ⟨p.toNat, by omega⟩
  obtain ⟨Q, rfl⟩ : ∃ Q : Nat, q = (Q : Int) := ⟨q.toNat, by omega⟩
  have H1 := hH (fun W => rU_any P W (by omega))
  have H2 := hH (fun W => rU_any Q W (by omega))
  rw [← u64_wrap (z := (P : Int)) (by omega) (by omega)] at H1
  rw [← u64_wrap (z := (Q : Int)) (by omega) (by omega)] at H2
  have hl1 := putsU_len (n := P)
  have hl2 := putsU_len (n := Q)
  have HL1 := hH hl1
  have HL2 := hH hl2
  have hp1 : (P : Int) ≤ 18446744073709551615 := by omega
  have hq1 : (Q : Int) ≤ 18446744073709551615 := by omega
  rw [hs] at HI
  clear hs hl1 hl2
  have P0 := hH True.intro
  go_enter Tryz.func96, Tryz.ntmps96
  go_wp2_with fail
  (with_reducible refine (HI.out _).mono ?_); rintro e w1 ⟨rfl, b1⟩; have s1 : w.heap.size + 1 ≤ w1.heap.size := sz b1; have B1 := hJ w b1; obtain ⟨c1_0, c1_1⟩ := k2 (w.heap.size) (.int .i64 P) (.int .i64 Q) b1 aJ; obtain ⟨l1_0, n1_0, m1_0⟩ := lnm (show w.heap.size < w1.heap.size by omega); clear b1
  go_wp2_with fail
  go_region_held3 (fun w' => w'.cell? ⟨w.heap.size, 0, none⟩ = some (.int .i64 P) ∧ w'.cell? ⟨w.heap.size, 1, none⟩ = some (.int .i64 Q)) (first | (go_simp; done) | (go_keep; done) | (refine ⟨?_, ?_⟩ <;> first | (go_simp; done) | (go_keep; done))) (first | (first | (go_at_call 55; clear P0; (with_reducible refine (H1.out _).mono ?_); rintro e w4 ⟨v4, rfl, o4, b4⟩; have P1 := hH True.intro; have s4 : w1.heap.size ≤ w4.heap.size := (by have := b4.size; first | omega | (simp at this; omega)); have B4 := hH (show Below w.heap.size w w4 from below_tr (bx B1.out) (b4.mono mJ)); have O4 := hH o4; have z0 : w4.cell? ⟨w.heap.size, 0, none⟩ = some (.int .i64 P) := (b4.cell mJ).trans (by go_simp); have z1 : w4.cell? ⟨w.heap.size, 1, none⟩ = some (.int .i64 Q) := (b4.cell mJ).trans (by go_simp); clear o4 b4) | (go_at_call 55; clear P1; (with_reducible refine (H2.out _).mono ?_); rintro e w5 ⟨v5, rfl, o5, b5⟩; have s5 : w4.heap.size ≤ w5.heap.size := (by have := b5.size; first | omega | (simp at this; omega)); have B5 := hH (show Below w.heap.size w w5 from below_tr (bx B4.out) (b5.mono mJ)); have I5 := hH (o5.ints' (by have := HL2.out; omega)); have O5 := hH (own_keep O4.out (fun g _ hg => b5.block g hg)); have y0 : w5.cell? ⟨w.heap.size, 0, none⟩ = some (.int .i64 P) := (b5.cell mJ).trans (by go_simp); have y1 : w5.cell? ⟨w.heap.size, 1, none⟩ = some (.int .i64 Q) := (b5.cell mJ).trans (by go_simp); clear o5 b5) | (refine appInts_step rfl _ _ 45 rfl Tryz.underlying45 eiU8 w1.heap.size (by rfl) O5.out (by rfl) I5.out (by have := HL1.out; have := HL2.out; omega) (by omega) ?_; intro v6 w6 hown6 hb6 _; have O6 := hH hown6; have B6 := hH (show Below w.heap.size w w6 from below_tr (bx B5.out) (hb6.mono (by omega))); have x0 : w6.cell? ⟨w.heap.size, 0, none⟩ = some (.int .i64 P) := (hb6.cell mJ).trans (by go_simp); have x1 : w6.cell? ⟨w.heap.size, 1, none⟩ = some (.int .i64 Q) := (hb6.cell mJ).trans (by go_simp); clear hown6 hb6)))
  go_wp2_with fail
  go_ret
  have hown := O6.out
  rw [← List.map_append] at hown
  exact ⟨_, rfl, by rw [HSB.out]; exact (Ints.own hown (by have := HL1.out; have := HL2.out; simp; omega)).2, B6.out⟩

end Go.Proofs.YtgobbecpnjelmaaGreat

namespace Go.Proofs.YtgobbecpnjelmaaGreat
open Go.RowKit

/-- From the world a to the world m no block of a has changed. -/
def Since (a m : World) : Prop := Below a.heap.size a m

theorem Since.below {a m w : World} (h : Since a m) (k : Below m.heap.size m w) : Since a w := Bc h k h.size

theorem Since.own {a m w : World} (h : Since a m) (k : Below a.heap.size m w) : Since a w := Bc h k (Nat.le_refl _)

theorem seqTk {P : Program} {ops : Array Oper} {rest : List Oper} {o : Oper} {a : Act} {w : World} {Q : Exit → Act → World → Prop} {v : Value} (hw : Region.wanted o (yielded ops a.tmps) = true)
  (h : wpList P ops Q rest (a.put o.dst v) w) (hy : (execOp a.eval o).run P w = .ok (.value v) w) : wpList P ops Q (o :: rest) a w :=
 wpList_step fun K hK => by
  rw [if_pos hw]
  unfold Oper.wp
  rw [hy]
  exact hK _ _ h

theorem lexTk {P : Program} {md : Region.Mode} {ops : Array Oper} {Q : Exit → Act → World → Prop} {S : World → Prop} (i : Nat) {oi : Oper} {v : Value} {fuel : Nat} {listed : Array Bool} {a : Act} {w : World} (hi : ops.toList[i]? = some oi)
  (hS : S w) (h : wpAnyH P md ops Q S fuel (listed.setIfInBounds i true) (a.put oi.dst v) w) (hB : (Region.noSelect ops && Region.free md ops listed i && (Region.ready md ops listed).contains i) = true) (hQ : ∀ c a w, Q (.panic c) (a.put oi.dst v) w → Q (.panic c) a w)
  (hw : Region.wanted oi (yielded ops a.tmps) = true) (hy : ∀ w, S w → (execOp a.eval oi).run P w = .ok (.value v) w) : wpAnyH P md ops Q S (fuel + 1) listed a w := by
 simp only [Bool.and_eq_true] at hB
 exact wpAnyH_take (by simpa using hi) hB.1.1 hB.1.2 hB.2 hQ (Or.inl ⟨hw, hy⟩) hS h

theorem lexSk {P : Program} {md : Region.Mode} {ops : Array Oper} {Q : Exit → Act → World → Prop} {S : World → Prop} (i : Nat) {oi : Oper} {fuel : Nat} {listed : Array Bool} {a : Act} {w : World} (hi : ops.toList[i]? = some oi)
  (hS : S w) (h : wpAnyH P md ops Q S fuel (listed.setIfInBounds i true) (a.put oi.dst undef) w) (hB : (Region.noSelect ops && Region.free md ops listed i && (Region.ready md ops listed).contains i) = true) (hQ : ∀ c a w, Q (.panic c) (a.put oi.dst undef) w → Q (.panic c) a w)
  (hw : Region.wanted oi (yielded ops a.tmps) = false) : wpAnyH P md ops Q S (fuel + 1) listed a w := by
 simp only [Bool.and_eq_true] at hB
 exact wpAnyH_take (by simpa using hi) hB.1.1 hB.1.2 hB.2 hQ (Or.inr ⟨hw, rfl⟩) hS h

theorem lexHv {P : Program} {md : Region.Mode} {ops : Array Oper} {Q : Exit → Act → World → Prop} {S : World → Prop} (i : Nat) {o : Oper} {fuel : Nat} {listed : Array Bool} {a : Act} {w : World} (hi : ops.toList[i]? = some o)
  (h : ∀ K' : Act → World → Prop, Shut (∀ a w, S w → (S w → wpAnyH P md ops Q S fuel (listed.setIfInBounds i true) a w) → K' a w) → if Region.wanted o (yielded ops a.tmps) = true then Oper.wp P o a w K' Q else K' (a.put o.dst undef) w)
  (hr : Region.ready md ops listed = [i]) : wpAnyH P md ops Q S (fuel + 1) listed a w :=
 wpAnyH_ready hr (by simp) (AllReadyH.cons (by simpa using hi) h AllReadyH.nil)

theorem lexHv2 {P : Program} {md : Region.Mode} {ops : Array Oper} {Q : Exit → Act → World → Prop} {S : World → Prop} (i j : Nat) {o o' : Oper} {fuel : Nat} {listed : Array Bool} {a : Act} {w : World} (hi : ops.toList[i]? = some o) (hj : ops.toList[j]? = some o')
  (h : ∀ K' : Act → World → Prop, Shut (∀ a w, S w → (S w → wpAnyH P md ops Q S fuel (listed.setIfInBounds i true) a w) → K' a w) → if Region.wanted o (yielded ops a.tmps) = true then Oper.wp P o a w K' Q else K' (a.put o.dst undef) w)
  (h' : ∀ K' : Act → World → Prop, Shut (∀ a w, S w → (S w → wpAnyH P md ops Q S fuel (listed.setIfInBounds j true) a w) → K' a w) → if Region.wanted o' (yielded ops a.tmps) = true then Oper.wp P o' a w K' Q else K' (a.put o'.dst undef) w)
  (hr : Region.ready md ops listed = [i, j]) : wpAnyH P md ops Q S (fuel + 1) listed a w :=
 wpAnyH_ready hr (by simp) (AllReadyH.cons (by simpa using hi) h (AllReadyH.cons (by simpa using hj) h' AllReadyH.nil))
/-- lexTk, lexSk in few words. -/
theorem lT {P : Program} {md : Region.Mode} {ops : Array Oper} {Q : Exit → Act → World → Prop} {S : World → Prop} (i : Nat) {oi : Oper} {v : Value} {fuel : Nat} {listed : Array Bool} {a a' : Act} {w : World} (hi : ops.toList[i]? = some oi)
  (hS : S w) (h : wpAnyH P md ops Q S fuel (listed.setIfInBounds i true) a' w) (hw : Region.wanted oi (yielded ops a.tmps) = true := by rfl) (hy : ∀ w, S w → (execOp a.eval oi).run P w = .ok (.value v) w := by (intro w hSw; (try dsimp only at hSw); first | (go_simp; done) | (go_simp; with_reducible rfl)))
  (ha : a.put oi.dst v = a' := by ((try simp only [Act.put, List.setIfInBounds_toArray, List.set_cons_zero, List.set_cons_succ]); exact rfl)) (hB : (Region.noSelect ops && Region.free md ops listed i && (Region.ready md ops listed).contains i) = true := by kernel_rfl) (hQ : ∀ c a w, Q (.panic c) (a.put oi.dst v) w → Q (.panic c) a w := by exact fun _ _ _ h => h) : wpAnyH P md ops Q S (fuel + 1) listed a w :=
 lexTk i hi hS (ha ▸ h) hB hQ hw hy

theorem lS {P : Program} {md : Region.Mode} {ops : Array Oper} {Q : Exit → Act → World → Prop} {S : World → Prop} (i : Nat) {oi : Oper} {fuel : Nat} {listed : Array Bool} {a a' : Act} {w : World} (hi : ops.toList[i]? = some oi)
  (hS : S w) (h : wpAnyH P md ops Q S fuel (listed.setIfInBounds i true) a' w) (hw : Region.wanted oi (yielded ops a.tmps) = false := by rfl)
  (ha : a.put oi.dst undef = a' := by ((try simp only [Act.put, List.setIfInBounds_toArray, List.set_cons_zero, List.set_cons_succ]); exact rfl)) (hB : (Region.noSelect ops && Region.free md ops listed i && (Region.ready md ops listed).contains i) = true := by kernel_rfl) (hQ : ∀ c a w, Q (.panic c) (a.put oi.dst undef) w → Q (.panic c) a w := by exact fun _ _ _ h => h) : wpAnyH P md ops Q S (fuel + 1) listed a w :=
 lexSk i hi hS (ha ▸ h) hB hQ hw

theorem hO {S : World → Prop} {X K : Act → World → Prop} (hK : Shut (∀ a w, S w → (S w → X a w) → K a w)) {a : Act} {w : World} (h : S w → X a w) (hs : S w := by (first | with_reducible exact True.intro | ((try dsimp only); and_intros <;> first | (go_simp; done) | (go_keep; done)))) : K a w := hK.out a w hs h
theorem lJ {P : Program} {md : Region.Mode} {ops : Array Oper} {Q : Exit → Act → World → Prop} {S : World → Prop} (i : Nat) {oi : Oper} {v : Value} {fuel : Nat} {listed : Array Bool} {a a' : Act} {w : World} (hS : S w) (h : wpAnyH P md ops Q S fuel (listed.setIfInBounds i true) a' w) (hi : ops.toList[i]? = some oi := by rfl) (hw : Region.wanted oi (yielded ops a.tmps) = true := by rfl) (hy : ∀ w, S w → (execOp a.eval oi).run P w = .ok (.value v) w := by (intro w hSw; (try dsimp only at hSw); first | (go_simp; done) | (go_simp; with_reducible rfl)))
  (ha : a.put oi.dst v = a' := by ((try simp only [Act.put, List.setIfInBounds_toArray, List.set_cons_zero, List.set_cons_succ]); exact rfl)) (hB : (Region.noSelect ops && Region.free md ops listed i && (Region.ready md ops listed).contains i) = true := by kernel_rfl) (hQ : ∀ c a w, Q (.panic c) (a.put oi.dst v) w → Q (.panic c) a w := by exact fun _ _ _ h => h) : wpAnyH P md ops Q S (fuel + 1) listed a w :=
 lexTk i hi hS (ha ▸ h) hB hQ hw hy

theorem pJ {S : World → Prop} {X K : Act → World → Prop} (hK : Shut (∀ a w, S w → (S w → X a w) → K a w)) {a a' : Act} {w : World} (h : S w → X a' w) (hs : S w := by (first | with_reducible exact True.intro | ((try dsimp only); and_intros <;> first | (go_simp; done) | (go_keep; done)))) (ha : a = a' := by ((try simp only [Act.put, List.setIfInBounds_toArray, List.set_cons_zero, List.set_cons_succ]); exact rfl)) : K a w := hK.out a w hs (ha ▸ h)

end Go.Proofs.YtgobbecpnjelmaaGreat

namespace Go.Proofs.YtgobbecpnjelmaaGreat
open Go.RowKit

/-- A node, by its numbers. -/
structure NodeP where
 coef : List Int
 at_ : Int
 left : Int
 right : Int
 size : Int

/-- A tree, by its numbers. -/
structure TreeP where
 dim : Int
 nodes : List NodeP

def vecB (v : List Int) (dim : Int) : Bool :=
 decide (1 ≤ dim) && decide (dim ≤ 8) && decide ((v.length : Int) = dim) && v.all fun x => decide (-2147483648 ≤ x) && decide (x ≤ 2147483647)

def partsB (c : List Int) (dim : Int) : Bool :=
 decide (1 ≤ dim) && decide (dim ≤ 8) && decide ((c.length : Int) = dim) && (c.all fun x => decide (-4 ≤ x) && decide (x ≤ 4)) && c.any fun x => decide (x ≠ 0)

def cutB (c : List Int) (a dim : Int) : Bool := decide (-137438953472 ≤ a) && decide (a ≤ 137438953472) && partsB c dim

def leafB (n : NodeP) : Bool := decide (n.left = 0) && decide (n.right = 0) && decide (n.coef.length = 0) && decide (n.at_ = 0) && decide (1 ≤ n.size)

def dotI : List Int → List Int → Int
 | c :: cs, x :: xs => c * x + dotI cs xs
 | _, _ => 0

/-- The nodes of a part of a tree: where it begins, where it ends, how high it is, how many points it has. -/
inductive Sub (t : TreeP) : Nat → Nat → Nat → Int → Prop
 | leaf {i : Nat} {n : NodeP} : t.nodes[i]? = some n → leafB n = true → Sub t i (i + 1) 0 n.size
 | node {i m e a b : Nat} {x y : Int} {n : NodeP} : t.nodes[i]? = some n → n.left = (i : Int) + 1 → cutB n.coef n.at_ t.dim = true → Sub t (i + 1) m a x → n.right = (m : Int) → Sub t m e b y →
   n.size = x + y → Sub t i e (1 + max a b) n.size

theorem leafB_is {n : NodeP} (h : leafB n = true) : n.left = 0 ∧ n.right = 0 ∧ n.coef = [] ∧ n.at_ = 0 ∧ 1 ≤ n.size := by
 unfold leafB at h
 simp only [Bool.and_eq_true, decide_eq_true_eq] at h
 exact ⟨h.1.1.1.1, h.1.1.1.2, List.eq_nil_of_length_eq_zero h.1.1.2, h.1.2, h.2⟩

theorem Sub.lt {t : TreeP} {i e h : Nat} {s : Int} (q : Sub t i e h s) : i < e ∧ e ≤ t.nodes.length := by
 induction q with
 | leaf hn _ => exact ⟨by omega, (List.getElem?_eq_some_iff.1 hn).1⟩
 | node hn _ _ _ _ _ _ ih1 ih2 => omega

theorem Sub.at_ {t : TreeP} {i e h : Nat} {s : Int} (q : Sub t i e h s) : ∃ n, t.nodes[i]? = some n ∧ n.size = s := by
 cases q with
 | leaf hn _ => exact ⟨_, hn, rfl⟩
 | node hn _ _ _ _ _ _ => exact ⟨_, hn, rfl⟩

theorem Sub.pos {t : TreeP} {i e h : Nat} {s : Int} (q : Sub t i e h s) : 1 ≤ s := by
 induction q with
 | leaf hn hl => exact (leafB_is hl).2.2.2.2
 | node hn _ _ _ _ _ hs ih1 ih2 => omega

theorem Sub.room {t : TreeP} {i e h : Nat} {s : Int} (q : Sub t i e h s) : (e : Int) + 1 ≤ i + 2 * s := by
 induction q with
 | leaf hn hl => have := (leafB_is hl).2.2.2.2; omega
 | node hn _ _ _ _ _ hs ih1 ih2 => omega

theorem Sub.high {t : TreeP} {i e h : Nat} {s : Int} (q : Sub t i e h s) : h + 1 + i ≤ e := by
 induction q with
 | leaf hn hl => omega
 | node hn _ _ _ _ _ hs ih1 ih2 => omega

theorem Sub.same {t : TreeP} {i e h : Nat} {s : Int} (q : Sub t i e h s) : ∀ {e' h' : Nat} {s' : Int}, Sub t i e' h' s' → e = e' ∧ h = h' ∧ s = s' := by
 induction q with
 | leaf hn hl =>
  intro e' h' s' q'
  cases q' with
  | leaf hn' _ =>
   rw [hn] at hn'
   injection hn' with hn'
   subst hn'
   exact ⟨rfl, rfl, rfl⟩
  | node hn' hl' =>
   rw [hn] at hn'
   injection hn' with hn'
   subst hn'
   have := (leafB_is hl).1
   omega
 | @node i m e a b x y n hn hl hc q1 hr q2 hs ih1 ih2 =>
  intro e' h' s' q'
  cases q' with
  | leaf hn' hl' =>
   rw [hn] at hn'
   injection hn' with hn'
   subst hn'
   have := (leafB_is hl').1
   omega
  | @node _ m' _ _ _ _ _ n' hn' _ _ q1' hr' q2' hs' =>
   rw [hn] at hn'
   injection hn' with hn'
   subst hn'
   obtain ⟨e1, e2, e3⟩ := ih1 q1'
   have hm : m = m' := by omega
   subst hm
   obtain ⟨f1, f2, f3⟩ := ih2 q2'
   subst e2 f1 f2
   exact ⟨rfl, rfl, rfl⟩

/-- Each node of a part is the first one of a part, no larger. -/
theorem Sub.parts {t : TreeP} {i e h : Nat} {s : Int} (q : Sub t i e h s) : ∀ j, i ≤ j → j < e → ∃ e' h' s', Sub t j e' h' s' ∧ e' ≤ e ∧ h' ≤ h ∧ s' ≤ s := by
 induction q with
 | @leaf i n hn hl =>
  intro j h1 h2
  obtain rfl : j = i := by omega
  exact ⟨_, _, _, .leaf hn hl, by omega, by omega, by omega⟩
 | @node i m e a b x y n hn hl hc q1 hr q2 hs ih1 ih2 =>
  intro j h1 h2
  have p1 := q1.pos; have p2 := q2.pos
  have l1 := q1.lt; have l2 := q2.lt
  rcases Nat.lt_or_ge j (i + 1) with hj | hj
  ·obtain rfl : j = i := by omega
   exact ⟨_, _, _, .node hn hl hc q1 hr q2 hs, by omega, by omega, by omega⟩
  ·rcases Nat.lt_or_ge j m with hj2 | hj2
   ·obtain ⟨e', h', s', q, g1, g2, g3⟩ := ih1 j hj hj2
    exact ⟨e', h', s', q, by omega, by omega, by omega⟩
   ·obtain ⟨e', h', s', q, g1, g2, g3⟩ := ih2 j hj2 h2
    exact ⟨e', h', s', q, by omega, by omega, by omega⟩

/-- What a node at a place must be, where it is the first one of a part. -/
theorem Sub.inv {t : TreeP} {i e h : Nat} {s : Int} {n : NodeP} (q : Sub t i e h s) (hn : t.nodes[i]? = some n) : (leafB n = true ∧ e = i + 1 ∧ h = 0 ∧ s = n.size) ∨
  ∃ m a b x y, n.left = (i : Int) + 1 ∧ cutB n.coef n.at_ t.dim = true ∧ Sub t (i + 1) m a x ∧ n.right = (m : Int) ∧ Sub t m e b y ∧ n.size = x + y ∧ h = 1 + max a b ∧ s = n.size := by
 cases q with
 | leaf hn' hl =>
  rw [hn] at hn'
  injection hn' with hn'
  subst hn'
  exact .inl ⟨hl, rfl, rfl, rfl⟩
 | @node _ m _ a b x y _ hn' hl hc q1 hr q2 hs =>
  rw [hn] at hn'
  injection hn' with hn'
  subst hn'
  exact .inr ⟨m, a, b, x, y, hl, hc, q1, hr, q2, hs, rfl, rfl⟩

def logI (n : Int) : Nat := Lib.bitLen (n.toNat - 1)

/-- Is it a tree? -/
def IsTree (t : TreeP) : Prop := 1 ≤ t.dim ∧ t.dim ≤ 8 ∧ ∃ h s, Sub t 0 t.nodes.length h s ∧ s ≤ 64 ∧ h ≤ logI s

noncomputable def treeB (t : TreeP) : Bool := @decide (IsTree t) (Classical.propDecidable _)

theorem treeB_true {t : TreeP} : treeB t = true ↔ IsTree t := by unfold treeB; simp

theorem treeB_false {t : TreeP} : treeB t = false ↔ ¬ IsTree t := by unfold treeB; simp

theorem logI_le {n : Int} (h : n ≤ 64) : logI n ≤ 6 := by
 unfold logI
 have : n.toNat - 1 ≤ 63 := by omega
 generalize n.toNat - 1 = k at *
 have : ∀ k : Fin 64, Lib.bitLen k.val ≤ 6 := by decide
 exact this ⟨k, by omega⟩

theorem IsTree.len {t : TreeP} (h : IsTree t) : 1 ≤ t.nodes.length ∧ t.nodes.length ≤ 127 := by
 obtain ⟨_, _, g, s, q, h1, h2⟩ := h
 have := q.room; have := q.lt
 omega


/-- What a node of a tree that is no leaf must be. -/
theorem IsTree.inner {t : TreeP} (h : IsTree t) {i : Nat} {n : NodeP} (hn : t.nodes[i]? = some n) (hl : leafB n = false) :
  ∃ m e a b x y, n.left = (i : Int) + 1 ∧ cutB n.coef n.at_ t.dim = true ∧ Sub t (i + 1) m a x ∧ n.right = (m : Int) ∧ Sub t m e b y ∧ n.size = x + y ∧ ∀ r, t.nodes[0]? = some r → x ≤ r.size ∧ y ≤ r.size := by
 obtain ⟨_, _, g, s, q, h1, h2⟩ := h
 obtain ⟨e', h', s', q', g1, g2, g3⟩ := q.parts i (by omega) (List.getElem?_eq_some_iff.1 hn).1
 rcases q'.inv hn with ⟨hl', _⟩ | ⟨m, a, b, x, y, k1, k2, k3, k4, k5, k6, k7, k8⟩
 ·rw [hl] at hl'; cases hl'
 ·refine ⟨m, e', a, b, x, y, k1, k2, k3, k4, k5, k6, fun r hr => ?_⟩
  have := k3.pos; have := k5.pos
  obtain ⟨r', hr', hs⟩ := q.at_
  rw [hr] at hr'
  injection hr' with hr'
  subst hr'
  omega

theorem IsTree.root {t : TreeP} (h : IsTree t) {r : NodeP} (hr : t.nodes[0]? = some r) : 1 ≤ r.size ∧ r.size ≤ 64 := by
 obtain ⟨_, _, g, s, q, h1, h2⟩ := h
 obtain ⟨r', hr', hs⟩ := q.at_
 rw [hr] at hr'
 injection hr' with hr'
 subst hr'
 have := q.pos
 omega

theorem isTree_of {t : TreeP} {e h : Nat} {s : Int} {r : NodeP} (d1 : 1 ≤ t.dim) (d2 : t.dim ≤ 8) (hr : t.nodes[0]? = some r) (hs : r.size ≤ 64) (q : Sub t 0 e h s) :
  IsTree t ↔ e = t.nodes.length ∧ h ≤ logI r.size := by
 obtain ⟨r', hr', hs'⟩ := q.at_
 rw [hr] at hr'
 injection hr' with hr'
 subst hr'
 constructor
 ·rintro ⟨_, _, g, s', q', h1, h2⟩
  obtain ⟨rfl, rfl, rfl⟩ := q.same q'
  exact ⟨rfl, by rw [hs']; exact h2⟩
 ·rintro ⟨rfl, h2⟩
  exact ⟨d1, d2, h, s, q, by omega, by rw [← hs']; exact h2⟩

/-- The node that a vector comes to is on the left. -/
def leftB (n : NodeP) (x : List Int) : Bool := decide (dotI n.coef x < n.at_)

/-- The nodes on the way of a vector. -/
def wayT (t : TreeP) (x : List Int) : Nat → Nat → List Nat
 | 0, i => [i]
 | f + 1, i => match t.nodes[i]? with
  | none => [i]
  | some n => if n.left = 0 then [i] else i :: wayT t x f (if leftB n x then i + 1 else n.right.toNat)

theorem wayT_leaf {t : TreeP} {x : List Int} {i : Nat} {n : NodeP} (hn : t.nodes[i]? = some n) (hl : n.left = 0) (f : Nat) : wayT t x f i = [i] := by
 cases f with
 | zero => rfl
 | succ f => simp [wayT, hn, hl]

theorem wayT_node {t : TreeP} {x : List Int} {i : Nat} {n : NodeP} (hn : t.nodes[i]? = some n) (hl : ¬ n.left = 0) (f : Nat) :
  wayT t x (f + 1) i = i :: wayT t x f (if leftB n x then i + 1 else n.right.toNat) := by
 simp [wayT, hn, hl]

theorem Sub.way {t : TreeP} {i e h : Nat} {s : Int} (q : Sub t i e h s) (x : List Int) : ∀ f, h ≤ f → wayT t x f i = wayT t x h i ∧ (wayT t x h i).length ≤ h + 1 := by
 induction q with
 | leaf hn hl =>
  intro f hf
  rw [wayT_leaf hn (leafB_is hl).1, wayT_leaf hn (leafB_is hl).1]
  simp
 | @node i m e a b x' y n hn hl hc q1 hr q2 hs ih1 ih2 =>
  intro f hf
  obtain ⟨f, rfl⟩ : ∃ g, f = g + 1 := ⟨f - 1, by omega⟩
  have hl0 : ¬ n.left = 0 := by omega
  have hmt : n.right.toNat = m := by omega
  rw [Nat.add_comm 1 (max a b), wayT_node hn hl0, wayT_node hn hl0, hmt]
  have i1 := ih1 f (by omega); have i2 := ih1 (max a b) (by omega)
  have j1 := ih2 f (by omega); have j2 := ih2 (max a b) (by omega)
  split
  ·rw [i1.1, i2.1]
   refine ⟨rfl, ?_⟩
   simp only [List.length_cons]
   omega
  ·rw [j1.1, j2.1]
   refine ⟨rfl, ?_⟩
   simp only [List.length_cons]
   omega

/-- The nodes of a part, no deeper than a bound; each leaf is small. -/
inductive SubD (t : TreeP) : Nat → Nat → Nat → Int → Prop
 | leaf {d i : Nat} {n : NodeP} : t.nodes[i]? = some n → leafB n = true → n.size ≤ 64 → SubD t (d + 1) i (i + 1) n.size
 | node {d i m e : Nat} {x y : Int} {n : NodeP} : t.nodes[i]? = some n → n.left = (i : Int) + 1 → cutB n.coef n.at_ t.dim = true → SubD t d (i + 1) m x → n.right = (m : Int) → SubD t d m e y →
   n.size = x + y → SubD t (d + 1) i e n.size

theorem SubD.sub {t : TreeP} {d i e : Nat} {s : Int} (q : SubD t d i e s) : ∃ h, h < d ∧ Sub t i e h s := by
 induction q with
 | leaf hn hl _ => exact ⟨0, by omega, .leaf hn hl⟩
 | node hn hl hc _ hr _ hs ih1 ih2 =>
  obtain ⟨a, ha, q1⟩ := ih1
  obtain ⟨b, hb, q2⟩ := ih2
  exact ⟨1 + max a b, by omega, .node hn hl hc q1 hr q2 hs⟩

theorem Sub.subD {t : TreeP} {i e h : Nat} {s : Int} (q : Sub t i e h s) (hs : s ≤ 64) : ∀ d, h < d → SubD t d i e s := by
 induction q with
 | leaf hn hl =>
  intro d hd
  obtain ⟨d, rfl⟩ : ∃ k, d = k + 1 := ⟨d - 1, by omega⟩
  exact .leaf hn hl hs
 | node hn hl hc q1 hr q2 hs' ih1 ih2 =>
  intro d hd
  obtain ⟨d, rfl⟩ : ∃ k, d = k + 1 := ⟨d - 1, by omega⟩
  have := q1.pos; have := q2.pos
  exact .node hn hl hc (ih1 (by omega) d (by omega)) hr (ih2 (by omega) d (by omega)) hs'

theorem SubD.bd {t : TreeP} {d i e : Nat} {s : Int} (q : SubD t d i e s) : 1 ≤ s ∧ s ≤ 64 * (2 : Int) ^ d := by
 induction q with
 | @leaf d i n hn hl h64 =>
  have := (leafB_is hl).2.2.2.2
  have : (1 : Int) ≤ 2 ^ (d + 1) := by have := Nat.two_pow_pos (d + 1); exact_mod_cast this
  omega
 | @node d i m e x y n hn hl hc _ hr _ hs ih1 ih2 =>
  rw [Int.pow_succ]
  omega

theorem SubD.small {t : TreeP} {d i e : Nat} {s : Int} (q : SubD t d i e s) (hd : d ≤ 6) : 1 ≤ s ∧ s ≤ 4096 := by
 have h := q.bd
 have h2 := Nat.pow_le_pow_right (show 0 < 2 by omega) hd
 have h3 : ((2 ^ d : Nat) : Int) ≤ 64 := by omega
 rw [Int.natCast_pow] at h3
 have h4 : ((2 : Nat) : Int) = 2 := rfl
 rw [h4] at h3
 omega

theorem SubD.at_ {t : TreeP} {d i e : Nat} {s : Int} (q : SubD t d i e s) : ∃ n, t.nodes[i]? = some n ∧ n.size = s := by
 obtain ⟨_, _, q⟩ := q.sub
 exact q.at_

theorem SubD.same {t : TreeP} {d i e e' : Nat} {s s' : Int} (q : SubD t d i e s) (q' : SubD t d i e' s') : e = e' ∧ s = s' := by
 obtain ⟨_, _, q⟩ := q.sub
 obtain ⟨_, _, q'⟩ := q'.sub
 obtain ⟨h1, _, h3⟩ := q.same q'
 exact ⟨h1, h3⟩

open Classical in
/-- Where a part ends (-1: it is none). -/
noncomputable def endV (t : TreeP) (d i : Nat) : Int := if h : ∃ e s, SubD t d i e s then ((Classical.choose h : Nat) : Int) else -1

theorem endV_yes {t : TreeP} {d i e : Nat} {s : Int} (q : SubD t d i e s) : endV t d i = e := by
 have h : ∃ e s, SubD t d i e s := ⟨e, s, q⟩
 unfold endV
 rw [dif_pos h]
 obtain ⟨s', q'⟩ := Classical.choose_spec h
 exact congrArg _ (q'.same q).1

theorem endV_no {t : TreeP} {d i : Nat} (q : ∀ e s, ¬ SubD t d i e s) : endV t d i = -1 := by
 unfold endV
 rw [dif_neg (fun ⟨e, s, h⟩ => q e s h)]

/-- What a node that begins a part must be. -/
theorem SubD.inv {t : TreeP} {d i e : Nat} {s : Int} {n : NodeP} (q : SubD t (d + 1) i e s) (hn : t.nodes[i]? = some n) : (leafB n = true ∧ n.size ≤ 64 ∧ e = i + 1) ∨
  ∃ m x y, n.left = (i : Int) + 1 ∧ cutB n.coef n.at_ t.dim = true ∧ SubD t d (i + 1) m x ∧ n.right = (m : Int) ∧ SubD t d m e y ∧ n.size = x + y := by
 cases q with
 | leaf hn' hl h64 =>
  rw [hn] at hn'
  injection hn' with hn'
  subst hn'
  exact .inl ⟨hl, h64, rfl⟩
 | @node _ _ m _ x y _ hn' hl hc q1 hr q2 hs =>
  rw [hn] at hn'
  injection hn' with hn'
  subst hn'
  exact .inr ⟨m, x, y, hl, hc, q1, hr, q2, hs⟩

theorem isTree_end {t : TreeP} {r : NodeP} (d1 : 1 ≤ t.dim) (d2 : t.dim ≤ 8) (hr : t.nodes[0]? = some r) (hs : r.size ≤ 64) :
  IsTree t ↔ endV t (logI r.size + 1) 0 = (t.nodes.length : Int) := by
 constructor
 ·rintro ⟨_, _, h, s, q, h1, h2⟩
  obtain ⟨r', hr', hs'⟩ := q.at_
  rw [hr] at hr'
  injection hr' with hr'
  subst hr'
  exact endV_yes (q.subD h1 _ (by rw [hs']; omega))
 ·intro h
  by_cases hq : ∃ e s, SubD t (logI r.size + 1) 0 e s
  ·obtain ⟨e, s, q⟩ := hq
   rw [endV_yes q] at h
   obtain ⟨g, hg, q⟩ := q.sub
   obtain ⟨r', hr', hs'⟩ := q.at_
   rw [hr] at hr'
   injection hr' with hr'
   subst hr'
   have : e = t.nodes.length := by omega
   subst this
   exact ⟨d1, d2, g, s, q, by omega, by rw [← hs']; omega⟩
  ·rw [endV_no (fun e s q => hq ⟨e, s, q⟩)] at h
   omega
end Go.Proofs.YtgobbecpnjelmaaGreat

namespace Go.Proofs.YtgobbecpnjelmaaGreat
open Go.RowKit

def isV (x : Int) : Bool := decide (-2147483648 ≤ x) && decide (x ≤ 2147483647)

def isC (x : Int) : Bool := decide (-4 ≤ x) && decide (x ≤ 4)

theorem all_step {p : Int → Bool} {l : List Int} {k : Nat} {x : Int} (hx : l[k]? = some x) : (l.take (k + 1)).all p = ((l.take k).all p && p x) := by
 rw [take_snoc' hx, List.all_append]; simp

theorem any_step {p : Int → Bool} {l : List Int} {k : Nat} {x : Int} (hx : l[k]? = some x) : (l.take (k + 1)).any p = ((l.take k).any p || p x) := by
 rw [take_snoc' hx, List.any_append]; simp

def preB (l : List Int) (dim : Int) : Bool := decide (1 ≤ dim) && decide (dim ≤ 8) && decide ((l.length : Int) = dim)

theorem vecB_is (l : List Int) (dim : Int) : vecB l dim = (preB l dim && l.all isV) := rfl

theorem partsB_is (l : List Int) (dim : Int) : partsB l dim = (preB l dim && l.all isC && l.any fun x => decide (x ≠ 0)) := rfl

theorem all_false_of_take {p : Int → Bool} {l : List Int} {k : Nat} (h : (l.take k).all p = false) : l.all p = false := by
 rw [← List.take_append_drop k l, List.all_append, h, Bool.false_and]

set_option maxHeartbeats 1000000 in
theorem vis_any (v : Value) (l : List Int) (dim : Int) (w : World) (h : Ints .i64 w v l) :
  Calls Tryz.prog 120 #[v, .int .i64 dim] w fun e w' => e = .returned (.bool (vecB l dim)) ∧ w = w' := by
 obtain ⟨a, c, rfl, _, _, h3, h⟩ := h
 have H := hH h; clear h
 rw [vecB_is]
 obtain ⟨B, hB⟩ : ∃ B, preB l dim = B := ⟨_, rfl⟩
 rw [hB]
 have HB := hH hB
 clear hB
 go_enter Tryz.func120, Tryz.ntmps120
 go_upto_region 1 with fail
 go_cut [5] (fun ok wx => ok = .bool B ∧ w = wx)
 case first =>
  by_cases h1 : 1 ≤ dim
  ·by_cases h2 : dim ≤ 8
   ·by_cases h4 : (l.length : Int) = dim
    ·have hb : preB l dim = true := by unfold preB; simp [h1, h2, h4]
     have Q := hH hb
     clear hb
     go_wp2_with fail
     go_meet
     case rel => exact ⟨by rw [← HB.out, Q.out], rfl⟩
    ·have hb : preB l dim = false := by unfold preB; simp [h4]
     have Q := hH hb
     clear hb
     have h5 : ((l.length : Int) == dim) = false := by simp [h4]
     go_wp2_with fail
     go_meet
     case rel => exact ⟨by rw [← HB.out, Q.out], rfl⟩
   ·have hb : preB l dim = false := by unfold preB; simp [h2]
    have Q := hH hb
    clear hb
    go_wp2_with fail
    go_meet
    case rel => exact ⟨by rw [← HB.out, Q.out], rfl⟩
  ·have hb : preB l dim = false := by unfold preB; simp [h1]
   have Q := hH hb
   clear hb
   go_wp2_with fail
   go_meet
   case rel => exact ⟨by rw [← HB.out, Q.out], rfl⟩
 case rest =>
  obtain ⟨rfl, rfl⟩ := hcut
  go_wp2_with fail
  go_loopw [5, 6] (fun ok i wr => ∃ k : Nat, i = .int .i64 k ∧ k ≤ l.length ∧ ok = .bool (B && (l.take k).all isV) ∧ w = wr) (fun _ i _ => l.length + 1 - (intOf i).toNat)
  case atStart => exact ⟨0, rfl, by omega, by simp, rfl⟩
  case round =>
   obtain ⟨k, rfl, hk, rfl, rfl⟩ := hrel
   cases hA : (B && (l.take k).all isV) with
   | false =>
    have HA := hH hA
    clear hA
    go_wp2_with fail
    go_ret
    refine ⟨ret_bool ?_, rfl⟩
    have hA := HA.out
    rw [Bool.and_eq_false_iff] at hA
    rcases hA with hA | hA
    ·rw [hA]; rfl
    ·rw [all_false_of_take hA, Bool.and_false]
   | true =>
    have HA := hH hA
    clear hA
    by_cases hlt : k < l.length
    ·obtain ⟨x, hx⟩ := getElem?_ex hlt
     obtain ⟨b1, o1, rfl, hb1, hc1⟩ := H.out k x hx
     have hs := all_step (p := isV) hx
     have HS := hH hs
     have i1 : (0 : Int) ≤ (k : Int) := by omega
     have i2 : (k : Int) < (l.length : Int) := by omega
     have i3 : (k : Int) ≤ 140737488351232 := by omega
     clear hx hs
     by_cases g1 : -2147483648 ≤ x
     ·by_cases g2 : x ≤ 2147483647
      ·go_wp2_with fail
       go_roundw
       case rel => exact ⟨k + 1, by go_num, by omega, by rw [HS.out, ← Bool.and_assoc, HA.out, isV]; simp [g1, g2], trivial⟩
       case measure => simp [intOf] <;> omega
      ·go_wp2_with fail
       go_roundw
       case rel => exact ⟨k + 1, by go_num, by omega, by rw [HS.out, ← Bool.and_assoc, HA.out, isV]; simp [g1, g2], trivial⟩
       case measure => simp [intOf] <;> omega
     ·go_wp2_with fail
      go_roundw
      case rel => exact ⟨k + 1, by go_num, by omega, by rw [HS.out, ← Bool.and_assoc, HA.out, isV]; simp [g1], trivial⟩
      case measure => simp [intOf] <;> omega
    ·obtain rfl : k = l.length := by omega
     go_wp2_with fail
     go_ret
     refine ⟨ret_bool ?_, rfl⟩
     have hA := HA.out
     rw [List.take_length] at hA
     exact hA.symm
end Go.Proofs.YtgobbecpnjelmaaGreat

namespace Go.Proofs.YtgobbecpnjelmaaGreat
open Go.RowKit

/-- An array's cells, overwritten from a place on. -/
def ovw (cur : Array Value) : Nat → List Value → Array Value
 | _, [] => cur
 | o, v :: r => ovw (cur.setIfInBounds o v) (o + 1) r

theorem ovw_get : ∀ (vs : List Value) (cur : Array Value) (o j : Nat), o + vs.length ≤ cur.size → (ovw cur o vs)[j]? = if j < o then cur[j]? else if j < o + vs.length then vs[j - o]? else cur[j]?
 | [], cur, o, j, h => by
  rw [ovw]
  split
  ·rfl
  ·rw [if_neg (by simp; omega)]
 | v :: r, cur, o, j, h => by
  rw [List.length_cons] at h
  rw [ovw, ovw_get r _ _ _ (by simp; omega), Array.getElem?_setIfInBounds, List.length_cons]
  by_cases h1 : j < o
  ·rw [if_pos (by omega), if_pos h1, if_neg (by omega)]
  ·rw [if_neg h1]
   by_cases h2 : o = j
   ·subst h2
    rw [if_pos (by omega), if_pos rfl, if_pos (by omega), if_pos (by omega)]
    simp
   ·rw [if_neg (by omega), if_neg h2]
    by_cases h3 : j < o + 1 + r.length
    ·rw [if_pos h3, if_pos (by omega), show j - o = (j - (o + 1)) + 1 by omega]
     simp
    ·rw [if_neg h3, if_neg (by omega)]

/-- The cells of a block that is a plain row. -/
def RowAt (w : World) (g : Nat) (e : TypeId) (cur : Array Value) : Prop := w.heap[g]? = some (.cells cur e (0, 0))

theorem RowAt.lt {w : World} {g : Nat} {e : TypeId} {cur : Array Value} (h : RowAt w g e cur) : g < w.heap.size := (Array.getElem?_eq_some_iff.1 h).1

theorem RowAt.cell {w : World} {g : Nat} {e : TypeId} {cur : Array Value} (h : RowAt w g e cur) (o : Nat) : w.cell? ⟨g, o, none⟩ = cur[o]? := by
 unfold RowAt at h
 simp [World.cell?, h]

theorem RowAt.frozen {w : World} {g : Nat} {e : TypeId} {cur : Array Value} (h : RowAt w g e cur) (o : Nat) : w.frozen? ⟨g, o, none⟩ = false := by
 unfold RowAt at h
 simp [World.frozen?, h]

theorem RowAt.shape {w : World} {g : Nat} {e : TypeId} {cur : Array Value} (h : RowAt w g e cur) : w.shape? g = some (e, cur.size) := by
 unfold RowAt at h
 simp [World.shape?, h]

theorem RowAt.set {w : World} {g : Nat} {e : TypeId} {cur : Array Value} (h : RowAt w g e cur) (o : Nat) (v : Value) : RowAt (w.setCell ⟨g, o, none⟩ v) g e (cur.setIfInBounds o v) := by
 unfold RowAt at h ⊢
 simp [World.setCell, Array.getElem?_modify, h]

theorem RowAt.sets {g : Nat} {e : TypeId} : ∀ (vs : List Value) {w : World} {cur : Array Value} (o : Nat), RowAt w g e cur → RowAt (w.setCells g o vs) g e (ovw cur o vs)
 | [], _, _, _, h => h
 | v :: r, _, _, o, h => RowAt.sets r (o + 1) (h.set o v)

theorem sets_other {g : Nat} : ∀ (vs : List Value) (w : World) (o : Nat) {q : Nat}, q ≠ g → (w.setCells g o vs).heap[q]? = w.heap[q]?
 | [], _, _, _, _ => rfl
 | _ :: r, _, o, _, h => (sets_other r _ (o + 1) h).trans (Below.heap_setCell _ _ _ _ h)

theorem sets_below {g B : Nat} (hB : B ≤ g) : ∀ (vs : List Value) {a w : World} (o : Nat), Below B a w → Below B a (w.setCells g o vs)
 | [], _, _, _, h => h
 | v :: r, _, _, o, h => sets_below hB r (o + 1) (h.setCell hB v)

theorem own_rowAt {w : World} {base e size n : Nat} {g o cap : Nat} {s : Option _} {xs : List Value} (h : w.ownsRow base e size (.slice (some ⟨g, o, s⟩) n cap) n xs) :
  ∃ cur, o = 0 ∧ s = none ∧ base ≤ g ∧ RowAt w g e cur ∧ n ≤ cap ∧ cap ≤ maxLen ∧ cur.size = cap * size ∧ cur.toList.take (n * size) = xs := by
 rcases h.2 with ⟨h1, _⟩ | ⟨g', cap', cur, h1, h2, h3, h4, h5, h6, h7⟩
 ·cases h1
 ·injection h1 with h1 _ hc
  injection h1 with h1
  injection h1 with e1 e2 e3
  subst e1 e2 e3 hc
  exact ⟨cur, rfl, rfl, h2, h3, h4, h5, h6, h7⟩

theorem rowAt_own {w : World} {base e size n g cap : Nat} {cur : Array Value} {xs : List Value} (hb : base ≤ g) (h : RowAt w g e cur) (h1 : n ≤ cap) (h2 : cap ≤ maxLen) (h3 : cur.size = cap * size) (h4 : cur.toList.take (n * size) = xs) :
  w.ownsRow base e size (.slice (some ⟨g, 0, none⟩) n cap) n xs := by
 refine ⟨?_, .inr ⟨g, cap, cur, rfl, hb, h, h1, h2, h3, h4⟩⟩
 rw [← h4, List.length_take, Array.length_toList, h3]
 exact Nat.min_eq_left (Nat.mul_le_mul_right _ h1)
end Go.Proofs.YtgobbecpnjelmaaGreat

namespace Go.Proofs.YtgobbecpnjelmaaGreat
open Go.RowKit

theorem own_at {w w' : World} {base e size n : Nat} {v : Value} {xs : List Value} (h : w.ownsRow base e size v n xs) (hk : ∀ g, v.ownBlock = some g → w'.heap[g]? = w.heap[g]?) : w'.ownsRow base e size v n xs := by
 refine ⟨h.1, ?_⟩
 rcases h.2 with h1 | ⟨g, cap, cur, rfl, h2, h3, h4⟩
 ·exact .inl h1
 ·exact .inr ⟨g, cap, cur, rfl, h2, (hk g rfl).trans h3, h4⟩

theorem own_lt {w : World} {base e size n : Nat} {v : Value} {xs : List Value} (h : w.ownsRow base e size v n xs) {g : Nat} (hg : v.ownBlock = some g) : g < w.heap.size := by
 rcases h.2 with ⟨rfl, _⟩ | ⟨g', cap, cur, rfl, _, h3, _⟩
 ·cases hg
 ·injection hg with hg
  subst hg
  exact (Array.getElem?_eq_some_iff.1 h3).1

/-- Only blocks of F have changed, or are new. -/
structure OnlyIn (F : List Nat) (w w' : World) : Prop where
 os : w'.os = w.os
 tape : w'.tape = w.tape
 output : w'.output = w.output
 size : w.heap.size ≤ w'.heap.size
 block : ∀ b, b < w.heap.size → b ∉ F → w'.heap[b]? = w.heap[b]?

theorem OnlyIn.refl (F : List Nat) (w : World) : OnlyIn F w w := ⟨rfl, rfl, rfl, Nat.le_refl _, fun _ _ _ => rfl⟩

theorem OnlyIn.trans {F F' : List Nat} {w w1 w2 : World} (h : OnlyIn F w w1) (k : OnlyIn F' w1 w2) (hF : ∀ b, b ∈ F' → b ∈ F ∨ w.heap.size ≤ b) : OnlyIn F w w2 :=
 ⟨k.os.trans h.os, k.tape.trans h.tape, k.output.trans h.output, Nat.le_trans h.size k.size, fun b hb hn =>
  (k.block b (Nat.lt_of_lt_of_le hb h.size) fun hbF => by rcases hF b hbF with h1 | h1; exact hn h1; omega).trans (h.block b hb hn)⟩

theorem OnlyIn.set {F : List Nat} {w : World} (b o : Nat) (u : Value) (hb : b ∈ F) : OnlyIn F w (w.setCell ⟨b, o, none⟩ u) :=
 ⟨rfl, rfl, rfl, by simp, fun c _ hn => Below.heap_setCell _ _ _ _ (fun e => hn (by rw [e]; exact hb))⟩

theorem OnlyIn.below {F : List Nat} {w w' : World} {B : Nat} (h : OnlyIn F w w') (hF : ∀ b, b ∈ F → B ≤ b) (hB : B ≤ w.heap.size) : Below B w w' :=
 ⟨h.os, h.tape, h.output, h.size, fun b hb => h.block b (by omega) fun hbF => by have := hF b hbF; omega⟩

theorem OnlyIn.mono {F F' : List Nat} {w w' : World} (h : OnlyIn F w w') (hF : ∀ b, b ∈ F → b ∈ F') : OnlyIn F' w w' := ⟨h.os, h.tape, h.output, h.size, fun b hb hn => h.block b hb fun e => hn (hF b e)⟩

theorem own_prefix {w : World} {base e size n k : Nat} {g c : Nat} {xs : List Value} (h : w.ownsRow base e size (.slice (some ⟨g, 0, none⟩) n c) n xs) (hk : k ≤ n) : w.ownsRow base e size (.slice (some ⟨g, 0, none⟩) k c) k (xs.take (k * size)) := by
 obtain ⟨cur, _, _, h3, h4, h5, h6, h7, h8⟩ := own_rowAt h
 refine rowAt_own h3 h4 (by omega) h6 h7 ?_
 rw [← h8, List.take_take, Nat.min_eq_left (Nat.mul_le_mul_right _ hk)]

end Go.Proofs.YtgobbecpnjelmaaGreat

namespace Go.Proofs.YtgobbecpnjelmaaGreat
open Go.RowKit

/-- A node lies from (b, o) on. -/
def NodeAt (w : World) (b o : Nat) (n : NodeP) : Prop :=
 ∃ cv, Ints .i64 w cv n.coef ∧ w.cell? ⟨b, o, none⟩ = some cv ∧ w.cell? ⟨b, o + 1, none⟩ = some (.int .i64 n.at_) ∧ w.cell? ⟨b, o + 2, none⟩ = some (.int .i64 n.left) ∧
  w.cell? ⟨b, o + 3, none⟩ = some (.int .i64 n.right) ∧ w.cell? ⟨b, o + 4, none⟩ = some (.int .i64 n.size)

/-- v is a slice of nodes. -/
def NodesR (w : World) (v : Value) (l : List NodeP) : Prop :=
 ∃ a c, v = .slice a l.length c ∧ l.length ≤ c ∧ c ≤ 9223372036854775807 ∧ l.length ≤ 140737488351232 ∧
  ∀ (i : Nat) (n : NodeP), l[i]? = some n → ∃ b o, a = some ⟨b, o, none⟩ ∧ b < w.heap.size ∧ NodeAt w b (o + i * 5) n

/-- v is a tree. -/
def TreeR (w : World) (v : Value) (t : TreeP) : Prop := ∃ nv, v = .agg #[.int .i64 t.dim, nv] ∧ NodesR w nv t.nodes

/-- v is a node. -/
def NodeV (w : World) (v : Value) (n : NodeP) : Prop := ∃ cv, v = .agg #[cv, .int .i64 n.at_, .int .i64 n.left, .int .i64 n.right, .int .i64 n.size] ∧ Ints .i64 w cv n.coef

theorem NodeAt.below {w w' : World} {b o : Nat} {n : NodeP} (h : NodeAt w b o n) (hb : b < w.heap.size) (B : Below w.heap.size w w') : NodeAt w' b o n := by
 obtain ⟨cv, h0, h1, h2, h3, h4, h5⟩ := h
 exact ⟨cv, h0.below B, (B.cell (p := ⟨b, _, none⟩) hb).trans h1, (B.cell (p := ⟨b, _, none⟩) hb).trans h2, (B.cell (p := ⟨b, _, none⟩) hb).trans h3, (B.cell (p := ⟨b, _, none⟩) hb).trans h4, (B.cell (p := ⟨b, _, none⟩) hb).trans h5⟩

theorem NodesR.below {w w' : World} {v : Value} {l : List NodeP} (h : NodesR w v l) (B : Below w.heap.size w w') : NodesR w' v l := by
 obtain ⟨a, c, e, h1, h2, h3, h⟩ := h
 refine ⟨a, c, e, h1, h2, h3, fun i n hi => ?_⟩
 obtain ⟨b, o, e, hb, hn⟩ := h i n hi
 exact ⟨b, o, e, Nat.lt_of_lt_of_le hb B.size, hn.below hb B⟩

theorem TreeR.below {w w' : World} {v : Value} {t : TreeP} (h : TreeR w v t) (B : Below w.heap.size w w') : TreeR w' v t := by
 obtain ⟨nv, e, h⟩ := h
 exact ⟨nv, e, h.below B⟩

theorem NodeV.below {w w' : World} {v : Value} {n : NodeP} (h : NodeV w v n) (B : Below w.heap.size w w') : NodeV w' v n := by
 obtain ⟨cv, e, h⟩ := h
 exact ⟨cv, e, h.below B⟩

theorem NodeAt.val {w : World} {b o : Nat} {n : NodeP} (h : NodeAt w b o n) : ∃ ad cc, Ints .i64 w (.slice ad n.coef.length cc) n.coef ∧ w.cell? ⟨b, o, none⟩ = some (.slice ad n.coef.length cc) ∧ w.cell? ⟨b, o + 1, none⟩ = some (.int .i64 n.at_) ∧ w.cell? ⟨b, o + 2, none⟩ = some (.int .i64 n.left) ∧
  w.cell? ⟨b, o + 3, none⟩ = some (.int .i64 n.right) ∧ w.cell? ⟨b, o + 4, none⟩ = some (.int .i64 n.size) := by
 obtain ⟨cv, h0, h1, h2, h3, h4, h5⟩ := h
 obtain ⟨ad, cc, rfl⟩ := h0.shape
 exact ⟨ad, cc, h0, h1, h2, h3, h4, h5⟩

theorem TreeR.node {w : World} {d : Int} {b o n cc : Nat} {t : TreeP} (h : TreeR w (.agg #[.int .i64 d, .slice (some ⟨b, o, none⟩) n cc]) t) {i : Nat} {nd : NodeP} (hn : t.nodes[i]? = some nd) : b < w.heap.size ∧ NodeAt w b (o + i * 5) nd := by
 obtain ⟨nv, e, a, c, rfl, _, _, _, h⟩ := h
 injection e with e
 injection e with e
 simp at e
 obtain ⟨b', o', e', hb, hat⟩ := h i nd hn
 rw [← e.2.1] at e'
 injection e' with e'
 injection e' with e1 e2 e3
 subst e1 e2
 exact ⟨hb, hat⟩

theorem TreeR.addr {w : World} {d : Int} {ad : Option Addr} {n cc : Nat} {t : TreeP} (h : TreeR w (.agg #[.int .i64 d, .slice ad n cc]) t) {i : Nat} (hn : i < t.nodes.length) : ∃ b o, ad = some ⟨b, o, none⟩ := by
 obtain ⟨nv, e, a, c, rfl, _, _, _, h⟩ := h
 injection e with e
 injection e with e
 simp at e
 obtain ⟨nd, hnd⟩ := getElem?_ex hn
 obtain ⟨b', o', e', _⟩ := h i nd hnd
 exact ⟨b', o', e.2.1.trans e'⟩
end Go.Proofs.YtgobbecpnjelmaaGreat

namespace Go.Proofs.YtgobbecpnjelmaaGreat
open Go.RowKit

def intF (l : List Int) : List Value := l.map (Value.int .i64)

theorem intF_len (l : List Int) : (intF l).length = l.length := by simp [intF]

theorem intF_append (a b : List Int) : intF (a ++ b) = intF a ++ intF b := by simp [intF]

theorem intF_one {l : List Int} {u : Value} (h : u ∈ intF l) : u.oneCell' = true := by
 obtain ⟨x, _, rfl⟩ := List.mem_map.1 h
 rfl

/-- A row's block is as it was, or new. -/
def NewB (W : World) (v v' : Value) : Prop := v'.ownBlock = v.ownBlock ∨ ∃ b, v'.ownBlock = some b ∧ W.heap.size ≤ b

set_option maxRecDepth 100000 in
theorem run_appI (base : Nat) (v : Value) (l l2 : List Int) (W : World) (vx : Value) (hown : W.ownsRow base 3 1 v l.length (intF l)) (hl : Ints .i64 W vx l2) (hb : l.length + l2.length ≤ 1000000) (hbase : base ≤ W.heap.size) (ty : TypeId) :
  ∃ v' w', (Builtin.append_ #[36, 36] ty #[v, vx]).run Tryz.prog W = .ok v' w' ∧ w'.ownsRow base 3 1 v' (l ++ l2).length (intF (l ++ l2)) ∧ W.grownBy w' v.ownBlock ∧ NewB W v v' := by
 obtain ⟨i, hi, hz, hsize, hby, hzs, hsz, _⟩ := eiInt
 obtain ⟨ad, c, rfl, g1, g2, g3, h4⟩ := hl
 rcases ad with _ | ad
 ·have hl0 : l2 = [] := by
   cases l2 with
   | nil => rfl
   | cons x l2 => obtain ⟨b, o, e, _⟩ := h4 0 x rfl; cases e
  subst hl0
  have hrun : (Builtin.append_ #[36, 36] ty #[v, .slice none 0 c]).run Tryz.prog W = .ok v W := by
   rcases hown.2 with ⟨rfl, h0⟩ | ⟨g, cap, cur, rfl, _, _, hnc, _⟩
   ·simp [Builtin.append_, run_underlying Tryz.underlying36, sizeOf, typeInfo, hi, Builtin.lenOf, Builtin.firstCells]
   ·simp [Builtin.append_, run_underlying Tryz.underlying36, sizeOf, typeInfo, hi, Builtin.lenOf, Builtin.firstCells, hnc, storeCells]
  exact ⟨v, W, hrun, by simpa using hown, ⟨rfl, rfl, rfl, Nat.le_refl _, fun _ _ _ => rfl⟩, .inl rfl⟩
 ·obtain ⟨v', w', hrun, h2, h3, _, h5⟩ := run_append_own_at (P := Tryz.prog) W base 36 ty 3 i _ 1 8 Tryz.underlying36 hi hz hsize hby hzs hsz v l.length (intF l) hown ad l2.length c (intF l2) (by rw [intF_len, Nat.mul_one]) (by
   intro j u hu
   rw [intF, List.getElem?_map] at hu
   cases hy : l2[j]? with
   | none => rw [hy] at hu; cases hu
   | some y =>
    rw [hy] at hu
    obtain ⟨b, o, e, _, hc⟩ := h4 j y hy
    injection e with e
    subst e
    rw [Addr.add_lit, hc]
    simpa using hu) (fun u hu => intF_one hu) (by unfold maxLen; omega) (by omega) hbase
  refine ⟨v', w', hrun, ?_, h3, ?_⟩
  ·rw [List.length_append, intF_append]
   exact h2
  ·rcases h5 with h | h
   ·exact .inl h
   ·exact .inr ⟨_, h, Nat.le_refl _⟩

/-- The same, at a step of a region that draws its order. -/
theorem appI_step {ops : Array Oper} {o : Oper} {a : Act} {K : Act → World → Prop} {Q : Exit → Act → World → Prop} {E : Prop} (hgd : o.guard = none) (s x : Operand)
  (ho : o.op = .call { callee := .builtin .append, args := #[s, x], argTypes := #[36, 36] })
  (base : Nat) {v : Value} {l l2 : List Int} {W : World} {vx : Value} (hs : a.eval s = v) (hown : W.ownsRow base 3 1 v l.length (intF l)) (hx : a.eval x = vx) (hl : Ints .i64 W vx l2) (hb : l.length + l2.length ≤ 1000000) (hbase : base ≤ W.heap.size)
  (h : ∀ v' w', w'.ownsRow base 3 1 v' (l ++ l2).length (intF (l ++ l2)) → W.grownBy w' v.ownBlock → NewB W v v' → K (a.put o.dst v') w') : if Region.wanted o (yielded ops a.tmps) = true then o.wp Tryz.prog a W K Q else E := by
 have hw : Region.wanted o (yielded ops a.tmps) = true := by unfold Region.wanted; rw [hgd]
 rw [if_pos hw]
 obtain ⟨v', w', hrun, h2, h3, h4⟩ := run_appI base v l l2 W vx hown hl hb hbase o.type
 unfold Oper.wp execOp
 simp only [ho, resolve, invoke, builtin, Sem.run_bind, Sem.run_pure, Result.andThen_ok, List.map_toArray, List.map_cons, List.map_nil, hs, hx, hrun]
 exact h v' w' h2 h3 h4

theorem own_shape {w : World} {base e size n : Nat} {v : Value} {xs : List Value} (h : w.ownsRow base e size v n xs) : ∃ a m c, v = .slice a m c := by
 rcases h.2 with ⟨rfl, _⟩ | ⟨g, cap, _, rfl, _⟩
 ·exact ⟨_, _, _, rfl⟩
 ·exact ⟨_, _, _, rfl⟩

theorem gcell {W w' : World} {r : Option Nat} (g : W.grownBy w' r) {b o : Nat} (hb : b < W.heap.size) (hne : r ≠ some b) : w'.cell? ⟨b, o, none⟩ = W.cell? ⟨b, o, none⟩ := World.cell?_of_block (a := ⟨b, o, none⟩) (g.block b hb fun e => hne e.symm)

theorem gfroz {W w' : World} {r : Option Nat} (g : W.grownBy w' r) {b o : Nat} (hb : b < W.heap.size) (hne : r ≠ some b) : w'.frozen? ⟨b, o, none⟩ = W.frozen? ⟨b, o, none⟩ := World.frozen?_of_block (a := ⟨b, o, none⟩) (g.block b hb fun e => hne e.symm)

theorem row_new {W : World} {b : Nat} {T : TypeId} {cs : Array Value} (hb : b = W.heap.size) : RowAt (W.alloc (.cells cs T)) b T cs := by
 subst hb
 exact heap_alloc_new W _

theorem eiNode : EI Tryz.prog 112 (.agg #[.slice none 0 0, .int .i64 0, .int .i64 0, .int .i64 0, .int .i64 0]) 5 56 := .of rJ rfl (by decide) (by decide)

/-- Append of one element onto a row of the call's own; where the new row lies. -/
theorem app1N {P : Program} {ops : Array Oper} {rest : List Oper} {o : Oper} {a : Act} {Q : Exit → Act → World → Prop} (hgd : o.guard = none) (s x : Operand) (t : TypeId)
  (ho : o.op = .call { callee := .builtin .append, args := #[s, x], argTypes := #[t, t] })
  {e : TypeId} {z : Value} {size bytes : Nat} (ht : P.underlying t = some (.slice e)) (hE : EI P e z size bytes)
  (base : Nat) {v : Value} {n : Nat} {xs : List Value} {W : World} {cs : Array Value} {T : TypeId} {C : Nat} (hs : a.eval s = v) (hown : W.ownsRow base e size v n xs)
  {b : Nat} (hx : a.eval x = .slice (some ⟨b, 0, none⟩) 1 C) (hbk : b = W.heap.size) (hcs : cs.size = size) (h1 : ∀ u ∈ cs.toList, u.oneCell' = true)
  (hbytes : (n + 1) * bytes ≤ 140737488355328) (hbase : base ≤ W.heap.size)
  (h : ∀ v' w', w'.ownsRow base e size v' (n + 1) (xs ++ cs.toList) → W.grownBy w' v.ownBlock → NewB W v v' → wpList P ops Q rest (a.put o.dst v') w') :
  wpList P ops Q (o :: rest) a (W.alloc (.cells cs T)) := by
 subst hbk
 obtain ⟨i, hi, hz, hsize, hby, hzs, hsz, hbp⟩ := hE
 have h63 : n + 1 ≤ 140737488355328 := Nat.le_trans (Nat.le_mul_of_pos_right _ hbp) hbytes
 refine wpList_append_own_at _ hgd s x t ho base e i z size bytes ht hi hz hsize hby hzs hsz v n xs hs (hown.alloc _) ⟨W.heap.size, 0, none⟩ 1 C cs.toList hx (by simp [hcs]) ?_ h1 (by unfold maxLen; omega) hbytes (by simp; omega) ?_
 ·intro j u hu
  have hadd : (⟨W.heap.size, 0, none⟩ : Addr).add j = ⟨W.heap.size, j, none⟩ := by unfold Addr.add; split <;> simp_all
  rw [hadd]
  have hb := heap_alloc_new W (.cells cs T)
  simp only [World.cell?, hb]
  simpa using hu
 ·intro v' w' hown' hg _ h5
  refine h v' w' hown' ?_ ?_
  ·exact ⟨hg.os, hg.tape, hg.output, by have := hg.size; simp at this; omega, fun k hk hn => (hg.block k (by simp; omega) hn).trans ((Ba (B := W.heap.size) (Below.refl _ W)).block k hk)⟩
  ·rcases h5 with h | h
   ·exact .inl h
   ·exact .inr ⟨_, h, by simp⟩

def rowN (p : NodeP × Value) : List Value := [p.2, .int .i64 p.1.at_, .int .i64 p.1.left, .int .i64 p.1.right, .int .i64 p.1.size]

theorem rowN_at : ∀ (ps : List (NodeP × Value)) (i : Nat) (p : NodeP × Value), ps[i]? = some p → (ps.flatMap rowN)[i * 5]? = some p.2 ∧ (ps.flatMap rowN)[i * 5 + 1]? = some (.int .i64 p.1.at_) ∧ (ps.flatMap rowN)[i * 5 + 2]? = some (.int .i64 p.1.left) ∧ (ps.flatMap rowN)[i * 5 + 3]? = some (.int .i64 p.1.right) ∧ (ps.flatMap rowN)[i * 5 + 4]? = some (.int .i64 p.1.size)
 | [], i, p, h => by simp at h
 | q :: ps, 0, p, h => by
  obtain rfl : q = p := by simpa using h
  exact ⟨rfl, rfl, rfl, rfl, rfl⟩
 | q :: ps, i + 1, p, h => by
  have := rowN_at ps i p (by simpa using h)
  rw [List.flatMap_cons]
  have e1 : (i + 1) * 5 = i * 5 + 1 + 1 + 1 + 1 + 1 := by omega
  rw [e1]
  exact this

theorem own_nodes {w : World} {base e n : Nat} {v : Value} {ps : List (NodeP × Value)} (h : w.ownsRow base e 5 v n (ps.flatMap rowN)) (hn : n = ps.length) (hs : n ≤ 100000)
  (hp : ∀ p ∈ ps, Ints .i64 w p.2 p.1.coef) : NodesR w v (ps.map (·.1)) := by
 subst hn
 rcases h.2 with ⟨rfl, h0⟩ | ⟨g, cap, cur, rfl, hb, hg, h1, h2, h3, h4⟩
 ·have : ps = [] := List.eq_nil_of_length_eq_zero h0
  subst this
  exact ⟨none, 0, rfl, by simp, by omega, by simp, fun i x hi => by simp at hi⟩
 ·refine ⟨some ⟨g, 0, none⟩, cap, by rw [List.length_map], by rw [List.length_map]; exact h1, by simpa [maxLen] using h2, by rw [List.length_map]; omega, fun i t hi => ?_⟩
  rw [List.getElem?_map] at hi
  cases hpi : ps[i]? with
  | none => rw [hpi] at hi; cases hi
  | some p =>
   rw [hpi] at hi
   obtain rfl : p.1 = t := by simpa using hi
   have hlt : i < ps.length := (List.getElem?_eq_some_iff.1 hpi).1
   obtain ⟨r0, r1, r2, r3, r4⟩ := rowN_at ps i p hpi
   have c0 := (h.cellAt (i * 5) (by omega)).trans r0
   have c1 := (h.cellAt (i * 5 + 1) (by omega)).trans r1
   have c2 := (h.cellAt (i * 5 + 2) (by omega)).trans r2
   have c3 := (h.cellAt (i * 5 + 3) (by omega)).trans r3
   have c4 := (h.cellAt (i * 5 + 4) (by omega)).trans r4
   exact ⟨g, 0, rfl, (Array.getElem?_eq_some_iff.1 hg).1, p.2, hp p (List.mem_of_getElem? hpi), by rw [Nat.zero_add]; exact c0, by rw [Nat.zero_add]; exact c1, by rw [Nat.zero_add]; exact c2, by rw [Nat.zero_add]; exact c3, by rw [Nat.zero_add]; exact c4⟩

def AtB (v : Value) (g : Nat) : Prop := ∃ o n c, v = .slice (some ⟨g, o, none⟩) n c

theorem own_some2 {w : World} {base e size n : Nat} {v : Value} {xs : List Value} (h : w.ownsRow base e size v n xs) (h0 : 1 ≤ n) : ∃ g c, v = .slice (some ⟨g, 0, none⟩) n c ∧ base ≤ g ∧ g < w.heap.size := by
 rcases h.2 with ⟨_, e⟩ | ⟨g, cap, cur, rfl, hb, hrow, _⟩
 ·omega
 ·exact ⟨g, cap, rfl, hb, (Array.getElem?_eq_some_iff.1 hrow).1⟩

end Go.Proofs.YtgobbecpnjelmaaGreat

namespace Go.Proofs.YtgobbecpnjelmaaGreat
open Go.RowKit

def minL : List Int → Int
 | [] => 0
 | x :: l => l.foldl min x

def maxL : List Int → Int
 | [] => 0
 | x :: l => l.foldl max x

theorem min_le_of : ∀ (l : List Int) (x z : Int), l.foldl min x ≤ z ↔ x ≤ z ∨ ∃ y ∈ l, y ≤ z
 | [], x, z => by simp
 | y :: l, x, z => by
  rw [List.foldl_cons, min_le_of l]
  simp only [List.mem_cons, exists_eq_or_imp]
  rw [show min x y ≤ z ↔ x ≤ z ∨ y ≤ z by omega]
  constructor
  ·rintro ((h | h) | h)
   ·exact .inl h
   ·exact .inr (.inl h)
   ·exact .inr (.inr h)
  ·rintro (h | h | h)
   ·exact .inl (.inl h)
   ·exact .inl (.inr h)
   ·exact .inr h

theorem le_max_of : ∀ (l : List Int) (x z : Int), z ≤ l.foldl max x ↔ z ≤ x ∨ ∃ y ∈ l, z ≤ y
 | [], x, z => by simp
 | y :: l, x, z => by
  rw [List.foldl_cons, le_max_of l]
  simp only [List.mem_cons, exists_eq_or_imp]
  rw [show z ≤ max x y ↔ z ≤ x ∨ z ≤ y by omega]
  constructor
  ·rintro ((h | h) | h)
   ·exact .inl h
   ·exact .inr (.inl h)
   ·exact .inr (.inr h)
  ·rintro (h | h | h)
   ·exact .inl (.inl h)
   ·exact .inl (.inr h)
   ·exact .inr h

theorem minL_le {l : List Int} (hl : l ≠ []) (z : Int) : minL l ≤ z ↔ ∃ y ∈ l, y ≤ z := by
 cases l with
 | nil => exact absurd rfl hl
 | cons x l => rw [minL, min_le_of]; simp

theorem le_maxL {l : List Int} (hl : l ≠ []) (z : Int) : z ≤ maxL l ↔ ∃ y ∈ l, z ≤ y := by
 cases l with
 | nil => exact absurd rfl hl
 | cons x l => rw [maxL, le_max_of]; simp

theorem ends_all {l : List Int} (hl : l ≠ []) : l.all isC = (decide (-4 ≤ minL l) && decide (maxL l ≤ 4)) := by
 rw [Bool.eq_iff_iff, List.all_eq_true, Bool.and_eq_true, decide_eq_true_eq, decide_eq_true_eq]
 constructor
 ·intro h
  have h' : ∀ x ∈ l, -4 ≤ x ∧ x ≤ 4 := fun x hx => by have := h x hx; unfold isC at this; simpa using this
  refine ⟨Int.not_lt.1 fun hc => ?_, Int.not_lt.1 fun hc => ?_⟩
  ·obtain ⟨y, hy, h2⟩ := (minL_le hl (-5)).1 (by omega)
   have := h' y hy; omega
  ·obtain ⟨y, hy, h2⟩ := (le_maxL hl 5).1 (by omega)
   have := h' y hy; omega
 ·intro ⟨h1, h2⟩ x hx
  have a := (minL_le hl x).2 ⟨x, hx, by omega⟩
  have b := (le_maxL hl x).2 ⟨x, hx, by omega⟩
  unfold isC
  simp
  omega

theorem ends_any0 {l : List Int} (hl : l ≠ []) : (l.any fun x => decide (x ≠ 0)) = (decide (minL l < 0) || decide (0 < maxL l)) := by
 rw [Bool.eq_iff_iff, List.any_eq_true, Bool.or_eq_true, decide_eq_true_eq, decide_eq_true_eq]
 constructor
 ·rintro ⟨x, hx, h⟩
  have h : x ≠ 0 := by simpa using h
  have a := (minL_le hl x).2 ⟨x, hx, by omega⟩
  have b := (le_maxL hl x).2 ⟨x, hx, by omega⟩
  omega
 ·rintro (h | h)
  ·obtain ⟨y, hy, h2⟩ := (minL_le hl (-1)).1 (by omega)
   exact ⟨y, hy, by simp; omega⟩
  ·obtain ⟨y, hy, h2⟩ := (le_maxL hl 1).1 (by omega)
   exact ⟨y, hy, by simp; omega⟩

theorem int_min (a x : Int) : (if x < a then x else a) = min a x := by split <;> omega

theorem int_max (a x : Int) : (if a < x then x else a) = max a x := by split <;> omega

theorem foldl_step {f : Int → Int → Int} {l : List Int} {k : Nat} {x a : Int} (hx : l[k]? = some x) : (l.take (k + 1)).foldl f a = f ((l.take k).foldl f a) x := by
 rw [take_snoc' hx, List.foldl_append]; rfl

set_option maxHeartbeats 1000000 in
theorem vends_any (v : Value) (x0 : Int) (l : List Int) (w : World) (h : Ints .i64 w v (x0 :: l)) :
  Calls Tryz.prog 161 #[v] w fun e w' => e = .returned (.tuple #[.int .i64 (l.foldl min x0), .int .i64 (l.foldl max x0)]) ∧ ∃ n, w' = w.drewN n := by
 obtain ⟨a, c, rfl, h1, h2, h3, h⟩ := h
 obtain ⟨b, o, rfl, hb0, hc0⟩ := h 0 x0 rfl
 rw [Nat.add_zero] at hc0
 have h : ∀ i x, l[i]? = some x → w.cell? ⟨b, o + 1 + i, none⟩ = some (.int .i64 x) := fun i x hi => by
  obtain ⟨b', o', e, _, hc⟩ := h (i + 1) x (by simpa using hi)
  injection e with e
  injection e with e1 e2 e3
  subst e1 e2
  rw [← hc, show o + 1 + i = o + (i + 1) by omega]
 rw [List.length_cons] at h1 h3 ⊢
 have H := hH h
 obtain ⟨m, hm⟩ : ∃ m, l.length + 1 = m := ⟨_, rfl⟩
 rw [hm] at h1 h3 ⊢
 have HM := hH hm
 have i4 : (m : Int) ≤ c := by omega
 have i5 : (0 : Int) < m := by omega
 have i6 : (1 : Int) ≤ m := by omega
 clear h hm
 go_enter Tryz.func161, Tryz.ntmps161
 go_wp2_with fail
 go_quiet (fail)
 go_upto_region 2 with fail
 go_cut [15, 16, 17] (fun s n i wx => ∃ ad cc, s = .slice ad l.length cc ∧ n = .int .i64 l.length ∧ i = .int .i64 0 ∧ (0 < l.length → ad = some ⟨b, o + 1, none⟩) ∧ ∃ d, wx = w.drewN d)
 case first =>
  by_cases hc1 : c = 1
  ·subst hc1
   go_wp2_with fail
   go_meet
   case rel => have hm1 := HM.out; exact ⟨_, 0, by rw [show l.length = 0 by omega], by rw [show l.length = 0 by omega]; rfl, rfl, fun h => by omega, _, rfl⟩
  ·have i7 : 1 < c := by omega
   go_wp2_with fail
   go_meet
   case rel => have hm1 := HM.out; exact ⟨_, c - 1, by rw [show m - 1 = l.length by omega], by rw [show m - 1 = l.length by omega], rfl, fun _ => rfl, _, rfl⟩
 case rest =>
  obtain ⟨ad, cc, rfl, rfl, rfl, had, d, rfl⟩ := hcut
  have HAD := hH had
  clear had
  go_wp2_with fail
  go_loopw [4, 5, 7, 17] (fun lo hi _ i wr => ∃ k : Nat, i = .int .i64 k ∧ k ≤ l.length ∧ lo = .int .i64 ((l.take k).foldl min x0) ∧ hi = .int .i64 ((l.take k).foldl max x0) ∧ w.drewN d = wr) (fun _ _ _ i _ => l.length - (intOf i).toNat)
  case atStart => exact ⟨0, rfl, by omega, by simp, by simp, rfl⟩
  case round =>
   obtain ⟨k, rfl, hk, rfl, rfl, rfl⟩ := hrel
   by_cases hlt : k < l.length
   ·obtain ⟨x, hx⟩ := getElem?_ex hlt
    obtain rfl := HAD.out (by omega)
    have hc1 := H.out k x hx
    have HS1 := hH (foldl_step (f := min) (a := x0) hx)
    have HS2 := hH (foldl_step (f := max) (a := x0) hx)
    have i1 : (0 : Int) ≤ (k : Int) := by omega
    have i2 : (k : Int) < (l.length : Int) := by omega
    have i3 : (k : Int) ≤ 140737488351232 := by have := HM.out; omega
    clear hx
    obtain ⟨A, hA⟩ : ∃ A, (l.take k).foldl min x0 = A := ⟨_, rfl⟩
    obtain ⟨B, hB⟩ : ∃ B, (l.take k).foldl max x0 = B := ⟨_, rfl⟩
    rw [hA] at HS1 ⊢
    rw [hB] at HS2 ⊢
    clear hA hB
    go_wp2_with fail
    go_roundw
    case rel => exact ⟨k + 1, by go_num, by omega, by first | rw [HS1.out, int_min] | rw [HS1.out], by first | rw [HS2.out, int_max] | rw [HS2.out], trivial⟩
    case measure => simp [intOf] <;> omega
   ·obtain rfl : k = l.length := by omega
    go_wp2_with fail
    exact bodyPost_ret (v := .tuple #[.int .i64 (l.foldl min x0), .int .i64 (l.foldl max x0)]) (by simp [results, Tryz.results161, go_sem]) rfl ⟨rfl, _, rfl⟩

theorem parts_not {l : List Int} {dim : Int} (h : preB l dim = false) : partsB l dim = false := by rw [partsB_is, h]; rfl

theorem pre_1 {l : List Int} {dim : Int} (h : ¬ 1 ≤ dim) : preB l dim = false := by unfold preB; simp [h]

theorem pre_2 {l : List Int} {dim : Int} (h : ¬ dim ≤ 8) : preB l dim = false := by unfold preB; simp [h]

theorem pre_3 {l : List Int} {dim : Int} (h : ¬ (l.length : Int) = dim) : preB l dim = false := by unfold preB; simp [h]

theorem pre_yes {l : List Int} {dim : Int} (h1 : 1 ≤ dim) (h2 : dim ≤ 8) (h3 : (l.length : Int) = dim) : preB l dim = true := by unfold preB; simp [h1, h2, h3]

theorem parts_ends {x0 : Int} {l : List Int} {dim : Int} (h : preB (x0 :: l) dim = true) :
  partsB (x0 :: l) dim = (decide (-4 ≤ l.foldl min x0) && decide (l.foldl max x0 ≤ 4) && (decide (l.foldl min x0 < 0) || decide (0 < l.foldl max x0))) := by
 have h0 : x0 :: l ≠ [] := by simp
 rw [partsB_is, h, ends_all h0, ends_any0 h0, Bool.true_and]
 rfl

set_option maxHeartbeats 1000000 in
theorem vparts_any (v : Value) (l : List Int) (dim : Int) (w : World) (h : Ints .i64 w v l) :
  Calls Tryz.prog 152 #[v, .int .i64 dim] w fun e w' => e = .returned (.bool (partsB l dim)) ∧ ∃ n, w' = w.drewN n := by
 by_cases h1 : 1 ≤ dim
 ·by_cases h2 : dim ≤ 8
  ·by_cases h4 : (l.length : Int) = dim
   ·cases l with
    | nil => simp at h4; omega
    | cons x0 l =>
     rw [parts_ends (pre_yes h1 h2 h4)]
     have HC := hH (fun W (hW : Ints .i64 W v (x0 :: l)) => vends_any v x0 l W hW)
     have HI := hH h
     obtain ⟨a, c, rfl, _⟩ := h
     generalize l.foldl min x0 = A at *
     generalize l.foldl max x0 = B at *
     obtain ⟨m, hm⟩ : ∃ m, (x0 :: l).length = m := ⟨_, rfl⟩
     rw [hm] at h4 HC HI ⊢
     clear hm
     have h5 : ((m : Int) != dim) = false := by simp [h4]
     by_cases g1 : -4 ≤ A
     ·by_cases g2 : B ≤ 4
      ·by_cases g3 : A < 0
       ·rw [show (decide (-4 ≤ A) && decide (B ≤ 4) && (decide (A < 0) || decide (0 < B))) = true by simp [g1, g2, g3]]
        go_enter Tryz.func152, Tryz.ntmps152
        go_wp2_with fail
        refine (HC.out _ HI.out).mono ?_
        rintro e w1 ⟨rfl, d, rfl⟩
        go_wp2_with fail
        go_ret
        exact ⟨rfl, _, rfl⟩
       ·by_cases g4 : 0 < B
        ·rw [show (decide (-4 ≤ A) && decide (B ≤ 4) && (decide (A < 0) || decide (0 < B))) = true by simp [g1, g2, g4]]
         go_enter Tryz.func152, Tryz.ntmps152
         go_wp2_with fail
         refine (HC.out _ HI.out).mono ?_
         rintro e w1 ⟨rfl, d, rfl⟩
         go_wp2_with fail
         go_ret
         exact ⟨rfl, _, rfl⟩
        ·rw [show (decide (-4 ≤ A) && decide (B ≤ 4) && (decide (A < 0) || decide (0 < B))) = false by simp [g3, g4]]
         have G := hH (show (decide (A < 0) || decide (0 < B)) = false by simp [g3, g4])
         go_enter Tryz.func152, Tryz.ntmps152
         go_wp2_with fail
         refine (HC.out _ HI.out).mono ?_
         rintro e w1 ⟨rfl, d, rfl⟩
         go_wp2_with fail
         go_ret
         exact ⟨ret_bool G.out, _, rfl⟩
      ·rw [show (decide (-4 ≤ A) && decide (B ≤ 4) && (decide (A < 0) || decide (0 < B))) = false by simp [g2]]
       go_enter Tryz.func152, Tryz.ntmps152
       go_wp2_with fail
       refine (HC.out _ HI.out).mono ?_
       rintro e w1 ⟨rfl, d, rfl⟩
       go_wp2_with fail
       go_ret
       exact ⟨rfl, _, rfl⟩
     ·rw [show (decide (-4 ≤ A) && decide (B ≤ 4) && (decide (A < 0) || decide (0 < B))) = false by simp [g1]]
      go_enter Tryz.func152, Tryz.ntmps152
      go_wp2_with fail
      refine (HC.out _ HI.out).mono ?_
      rintro e w1 ⟨rfl, d, rfl⟩
      go_wp2_with fail
      go_ret
      exact ⟨rfl, _, rfl⟩
   ·rw [parts_not (pre_3 h4)]
    obtain ⟨a, c, rfl, _⟩ := h
    have h5 : ((l.length : Int) != dim) = true := by simp [h4]
    go_enter Tryz.func152, Tryz.ntmps152
    go_wp2_with fail
    go_ret
    exact ⟨rfl, 0, rfl⟩
  ·rw [parts_not (pre_2 h2)]
   obtain ⟨a, c, rfl, _⟩ := h
   go_enter Tryz.func152, Tryz.ntmps152
   go_wp2_with fail
   go_ret
   exact ⟨rfl, 0, rfl⟩
 ·rw [parts_not (pre_1 h1)]
  obtain ⟨a, c, rfl, _⟩ := h
  go_enter Tryz.func152, Tryz.ntmps152
  go_wp2_with fail
  go_ret
  exact ⟨rfl, 0, rfl⟩
end Go.Proofs.YtgobbecpnjelmaaGreat

namespace Go.Proofs.YtgobbecpnjelmaaGreat
open Go.RowKit

theorem partsB_yes {l : List Int} {dim : Int} (h : partsB l dim = true) : 1 ≤ dim ∧ dim ≤ 8 ∧ (l.length : Int) = dim ∧ l.all isC = true := by
 rw [partsB_is] at h
 unfold preB at h
 simp only [Bool.and_eq_true, decide_eq_true_eq] at h
 exact ⟨h.1.1.1.1, h.1.1.1.2, h.1.1.2, h.1.2⟩

set_option maxHeartbeats 1000000 in
theorem risv_any (v : Value) (l : List Int) (dim : Int) (w : World) (h : Ints .i64 w v l) :
  Calls Tryz.prog 125 #[v, .int .i64 dim] w fun e w' => e = .returned (.bool (vecB l dim)) ∧ w = w' := by
 obtain ⟨a, c, rfl, _, _, h3, h⟩ := h
 have H := hH h; clear h
 rw [vecB_is]
 by_cases h1 : 1 ≤ dim
 ·by_cases h2 : dim ≤ 8
  ·by_cases h4 : (l.length : Int) = dim
   ·rw [pre_yes h1 h2 h4, Bool.true_and]
    have h5 : ((l.length : Int) != dim) = false := by simp [h4]
    go_enter Tryz.func125, Tryz.ntmps125
    go_wp2_with fail
    go_loopw [5] (fun i wr => ∃ k : Nat, i = .int .i64 k ∧ k ≤ l.length ∧ (l.take k).all isV = true ∧ w = wr) (fun i _ => l.length + 1 - (intOf i).toNat)
    case atStart => exact ⟨0, rfl, by omega, by simp, rfl⟩
    case round =>
     obtain ⟨k, rfl, hk, hA, rfl⟩ := hrel
     have HA := hH hA
     clear hA
     by_cases hlt : k < l.length
     ·obtain ⟨x, hx⟩ := getElem?_ex hlt
      obtain ⟨b1, o1, rfl, hb1, hc1⟩ := H.out k x hx
      have hs := all_step (p := isV) hx
      have HS := hH hs
      have i1 : (0 : Int) ≤ (k : Int) := by omega
      have i2 : (k : Int) < (l.length : Int) := by omega
      have i3 : (k : Int) ≤ 140737488351232 := by omega
      clear hx hs
      by_cases g1 : -2147483648 ≤ x
      ·by_cases g2 : x ≤ 2147483647
       ·have G := hH (show isV x = true by unfold isV; simp [g1, g2])
        go_wp2_with fail
        go_roundw
        case rel => exact ⟨k + 1, by go_num, by omega, by rw [HS.out, HA.out, G.out]; rfl, trivial⟩
        case measure => simp [intOf] <;> omega
       ·have G := hH (show l.all isV = false from all_false_of_take (k := k + 1) (by rw [HS.out, show isV x = false by unfold isV; simp [g2]] <;> simp))
        go_wp2_with fail
        go_ret
        exact ⟨ret_bool G.out.symm, rfl⟩
      ·have G := hH (show l.all isV = false from all_false_of_take (k := k + 1) (by rw [HS.out, show isV x = false by unfold isV; simp [g1]] <;> simp))
       go_wp2_with fail
       go_ret
       exact ⟨ret_bool G.out.symm, rfl⟩
     ·obtain rfl : k = l.length := by omega
      go_wp2_with fail
      go_ret
      refine ⟨ret_bool ?_, rfl⟩
      have hA := HA.out
      rw [List.take_length] at hA
      exact hA.symm
   ·rw [pre_3 h4, Bool.false_and]
    have h5 : ((l.length : Int) != dim) = true := by simp [h4]
    go_enter Tryz.func125, Tryz.ntmps125
    go_wp2_with fail
    go_ret
    exact ⟨rfl, rfl⟩
  ·rw [pre_2 h2, Bool.false_and]
   go_enter Tryz.func125, Tryz.ntmps125
   go_wp2_with fail
   go_ret
   exact ⟨rfl, rfl⟩
 ·rw [pre_1 h1, Bool.false_and]
  go_enter Tryz.func125, Tryz.ntmps125
  go_wp2_with fail
  go_ret
  exact ⟨rfl, rfl⟩

set_option maxHeartbeats 1000000 in
theorem rparts_any (v : Value) (l : List Int) (dim : Int) (w : World) (h : Ints .i64 w v l) :
  Calls Tryz.prog 162 #[v, .int .i64 dim] w fun e w' => e = .returned (.bool (partsB l dim)) ∧ w = w' := by
 obtain ⟨a, c, rfl, _, _, h3, h⟩ := h
 have H := hH h; clear h
 rw [partsB_is]
 by_cases h1 : 1 ≤ dim
 ·by_cases h2 : dim ≤ 8
  ·by_cases h4 : (l.length : Int) = dim
   ·rw [pre_yes h1 h2 h4, Bool.true_and]
    have h5 : ((l.length : Int) != dim) = false := by simp [h4]
    go_enter Tryz.func162, Tryz.ntmps162
    go_wp2_with fail
    go_loopw [5, 6] (fun s i wr => ∃ k : Nat, i = .int .i64 k ∧ k ≤ l.length ∧ (l.take k).all isC = true ∧ s = .bool ((l.take k).any fun x => decide (x ≠ 0)) ∧ w = wr) (fun _ i _ => l.length + 1 - (intOf i).toNat)
    case atStart => exact ⟨0, rfl, by omega, by simp, by simp, rfl⟩
    case round =>
     obtain ⟨k, rfl, hk, hA, rfl, rfl⟩ := hrel
     have HA := hH hA
     clear hA
     by_cases hlt : k < l.length
     ·obtain ⟨x, hx⟩ := getElem?_ex hlt
      obtain ⟨b1, o1, rfl, hb1, hc1⟩ := H.out k x hx
      have hs := all_step (p := isC) hx
      have HS := hH hs
      have HS2 := hH (any_step (p := fun x => decide (x ≠ 0)) hx)
      have i1 : (0 : Int) ≤ (k : Int) := by omega
      have i2 : (k : Int) < (l.length : Int) := by omega
      have i3 : (k : Int) ≤ 140737488351232 := by omega
      obtain ⟨S, hS⟩ : ∃ S, ((l.take k).any fun x => decide (x ≠ 0)) = S := ⟨_, rfl⟩
      rw [hS] at HS2 ⊢
      clear hx hs hS
      by_cases g1 : -4 ≤ x
      ·by_cases g2 : x ≤ 4
       ·have G := hH (show isC x = true by unfold isC; simp [g1, g2])
        cases S with
        | true =>
         go_wp2_with fail
         go_roundw
         case rel => exact ⟨k + 1, by go_num, by omega, by rw [HS.out, HA.out, G.out]; rfl, by rw [HS2.out]; rfl, trivial⟩
         case measure => simp [intOf] <;> omega
        | false =>
         by_cases g3 : x = 0
         ·have g4 : (x != 0) = false := by simp [g3]
          have G2 := hH (show decide (x ≠ 0) = false by simp [g3])
          clear g3
          go_wp2_with fail
          go_roundw
          case rel => exact ⟨k + 1, by go_num, by omega, by rw [HS.out, HA.out, G.out]; rfl, by rw [HS2.out, G2.out]; rfl, trivial⟩
          case measure => simp [intOf] <;> omega
         ·have g4 : (x != 0) = true := by simp [g3]
          have G2 := hH (show decide (x ≠ 0) = true by simp [g3])
          clear g3
          go_wp2_with fail
          go_roundw
          case rel => exact ⟨k + 1, by go_num, by omega, by rw [HS.out, HA.out, G.out]; rfl, by rw [HS2.out, G2.out]; rfl, trivial⟩
          case measure => simp [intOf] <;> omega
       ·have G := hH (show l.all isC = false from all_false_of_take (k := k + 1) (by rw [HS.out, show isC x = false by unfold isC; simp [g2]] <;> simp))
        go_wp2_with fail
        go_ret
        exact ⟨ret_bool (by rw [G.out]; rfl), rfl⟩
      ·have G := hH (show l.all isC = false from all_false_of_take (k := k + 1) (by rw [HS.out, show isC x = false by unfold isC; simp [g1]] <;> simp))
       go_wp2_with fail
       go_ret
       exact ⟨ret_bool (by rw [G.out]; rfl), rfl⟩
     ·obtain rfl : k = l.length := by omega
      go_wp2_with fail
      go_ret
      refine ⟨ret_bool ?_, rfl⟩
      have hA := HA.out
      rw [List.take_length] at hA
      rw [hA]
      simp
   ·rw [pre_3 h4, Bool.false_and, Bool.false_and]
    have h5 : ((l.length : Int) != dim) = true := by simp [h4]
    go_enter Tryz.func162, Tryz.ntmps162
    go_wp2_with fail
    go_ret
    exact ⟨rfl, rfl⟩
  ·rw [pre_2 h2, Bool.false_and, Bool.false_and]
   go_enter Tryz.func162, Tryz.ntmps162
   go_wp2_with fail
   go_ret
   exact ⟨rfl, rfl⟩
 ·rw [pre_1 h1, Bool.false_and, Bool.false_and]
  go_enter Tryz.func162, Tryz.ntmps162
  go_wp2_with fail
  go_ret
  exact ⟨rfl, rfl⟩

end Go.Proofs.YtgobbecpnjelmaaGreat

namespace Go.Proofs.YtgobbecpnjelmaaGreat
open Go.RowKit

theorem cutB_is (c : List Int) (a dim : Int) : cutB c a dim = (decide (-137438953472 ≤ a) && decide (a ≤ 137438953472) && partsB c dim) := rfl

set_option maxHeartbeats 1000000 in
theorem cis_any (v : Value) (c : List Int) (a dim : Int) (w : World) (h : Ints .i64 w v c) :
  Calls Tryz.prog 141 #[.agg #[v, .int .i64 a], .int .i64 dim] w fun e w' => e = .returned (.bool (cutB c a dim)) ∧ Below w.heap.size w w' := by
 have HC := hH (fun W (hW : Ints .i64 W v c) => vparts_any v c dim W hW)
 have HI := hH h
 obtain ⟨ad, cc, rfl, _⟩ := h
 rw [cutB_is]
 obtain ⟨m, hm⟩ : ∃ m, c.length = m := ⟨_, rfl⟩
 rw [hm] at HC HI ⊢
 clear hm
 by_cases g1 : -137438953472 ≤ a
 ·by_cases g2 : a ≤ 137438953472
  ·rw [show (decide (-137438953472 ≤ a) && decide (a ≤ 137438953472) && partsB c dim) = partsB c dim by simp [g1, g2]]
   go_enter Tryz.func141, Tryz.ntmps141
   go_wp2_with fail
   refine (HC.out _ (HI.out.below bw)).mono ?_
   rintro e w1 ⟨rfl, d, rfl⟩
   go_wp2_with fail
   go_ret
   exact ⟨rfl, bw⟩
  ·rw [show (decide (-137438953472 ≤ a) && decide (a ≤ 137438953472) && partsB c dim) = false by simp [g2]]
   go_enter Tryz.func141, Tryz.ntmps141
   go_wp2_with fail
   go_ret
   exact ⟨rfl, bw⟩
 ·rw [show (decide (-137438953472 ≤ a) && decide (a ≤ 137438953472) && partsB c dim) = false by simp [g1]]
  go_enter Tryz.func141, Tryz.ntmps141
  go_wp2_with fail
  go_ret
  exact ⟨rfl, bw⟩

set_option maxHeartbeats 1000000 in
theorem rcis_any (v : Value) (c : List Int) (a dim : Int) (w : World) (h : Ints .i64 w v c) :
  Calls Tryz.prog 153 #[.agg #[v, .int .i64 a], .int .i64 dim] w fun e w' => e = .returned (.bool (cutB c a dim)) ∧ Below w.heap.size w w' := by
 have HC := hH (fun W (hW : Ints .i64 W v c) => rparts_any v c dim W hW)
 have HI := hH h
 obtain ⟨ad, cc, rfl, _⟩ := h
 rw [cutB_is]
 obtain ⟨m, hm⟩ : ∃ m, c.length = m := ⟨_, rfl⟩
 rw [hm] at HC HI ⊢
 clear hm
 obtain ⟨B, hB⟩ : ∃ B, partsB c dim = B := ⟨_, rfl⟩
 rw [hB] at HC ⊢
 clear hB
 cases B with
 | true =>
  by_cases g1 : -137438953472 ≤ a
  ·by_cases g2 : a ≤ 137438953472
   ·rw [show (decide (-137438953472 ≤ a) && decide (a ≤ 137438953472) && true) = true by simp [g1, g2]]
    go_enter Tryz.func153, Tryz.ntmps153
    go_wp2_with fail
    refine (HC.out _ (HI.out.below bw)).mono ?_
    rintro e w1 ⟨rfl, rfl⟩
    go_wp2_with fail
    go_ret
    exact ⟨rfl, bw⟩
   ·rw [show (decide (-137438953472 ≤ a) && decide (a ≤ 137438953472) && true) = false by simp [g2]]
    have G := hH (show decide (a ≤ 137438953472) = false by simp [g2])
    go_enter Tryz.func153, Tryz.ntmps153
    go_wp2_with fail
    refine (HC.out _ (HI.out.below bw)).mono ?_
    rintro e w1 ⟨rfl, rfl⟩
    go_wp2_with fail
    go_ret
    exact ⟨ret_bool G.out, bw⟩
  ·rw [show (decide (-137438953472 ≤ a) && decide (a ≤ 137438953472) && true) = false by simp [g1]]
   go_enter Tryz.func153, Tryz.ntmps153
   go_wp2_with fail
   refine (HC.out _ (HI.out.below bw)).mono ?_
   rintro e w1 ⟨rfl, rfl⟩
   go_wp2_with fail
   go_ret
   exact ⟨rfl, bw⟩
 | false =>
  rw [Bool.and_false]
  go_enter Tryz.func153, Tryz.ntmps153
  go_wp2_with fail
  refine (HC.out _ (HI.out.below bw)).mono ?_
  rintro e w1 ⟨rfl, rfl⟩
  go_wp2_with fail
  go_ret
  exact ⟨rfl, bw⟩

theorem leafB_at {n : NodeP} : leafB n = (decide (n.left = 0) && decide (n.right = 0) && decide (n.coef.length = 0) && decide (n.at_ = 0) && decide (1 ≤ n.size)) := rfl

set_option maxHeartbeats 1000000 in
theorem tleaf_any (v : Value) (n : NodeP) (w : World) (h : NodeV w v n) :
  Calls Tryz.prog 140 #[v] w fun e w' => e = .returned (.bool (leafB n)) ∧ Below w.heap.size w w' := by
 obtain ⟨cv, rfl, ad, cc, rfl, _⟩ := h
 rw [leafB_at]
 obtain ⟨c, a, l, r, s⟩ := n
 dsimp only
 obtain ⟨m, hm⟩ : ∃ m, c.length = m := ⟨_, rfl⟩
 rw [hm]
 clear hm
 by_cases h1 : l = 0
 ·subst h1
  by_cases h2 : r = 0
  ·subst h2
   by_cases h3 : m = 0
   ·subst h3
    by_cases h4 : a = 0
    ·subst h4
     simp only [decide_true, Bool.true_and]
     go_enter Tryz.func140, Tryz.ntmps140
     go_wp2_with fail
     go_ret
     exact ⟨rfl, bw⟩
    ·have e := hH (show decide (a = 0) = false by simp [h4])
     simp only [decide_true, Bool.true_and, e.out, Bool.false_and]
     have q : (a == 0) = false := by simp [h4]
     go_enter Tryz.func140, Tryz.ntmps140
     go_wp2_with fail
     go_ret
     exact ⟨rfl, bw⟩
   ·have e := hH (show decide (m = 0) = false by simp [h3])
    simp only [decide_true, Bool.true_and, e.out, Bool.false_and]
    have q : ((m : Int) == 0) = false := by simp; omega
    go_enter Tryz.func140, Tryz.ntmps140
    go_wp2_with fail
    go_ret
    exact ⟨rfl, bw⟩
  ·have e := hH (show decide (r = 0) = false by simp [h2])
   simp only [decide_true, Bool.true_and, e.out, Bool.false_and]
   have q : (r == 0) = false := by simp [h2]
   go_enter Tryz.func140, Tryz.ntmps140
   go_wp2_with fail
   go_ret
   exact ⟨rfl, bw⟩
 ·have e := hH (show decide (l = 0) = false by simp [h1])
  simp only [e.out, Bool.false_and]
  have q : (l == 0) = false := by simp [h1]
  go_enter Tryz.func140, Tryz.ntmps140
  go_wp2_with fail
  go_ret
  exact ⟨rfl, bw⟩
end Go.Proofs.YtgobbecpnjelmaaGreat

namespace Go.Proofs.YtgobbecpnjelmaaGreat
open Go.RowKit

theorem wpStill_of_quiet {P : Program} {ops : Array Oper} {W : World} {Q : Act → Prop} : ∀ (l : List Oper) (a : Act), wpQuiet P ops (fun w' => w' = W) Q l a → wpStill P ops W Q l a
 | [], _, h => h
 | o :: rest, a, h => by
  unfold wpQuiet at h
  unfold wpStill
  split
  ·rename_i hw
   rw [if_pos hw] at h
   obtain ⟨v, hq, hn⟩ := h
   have hq := hq W rfl
   unfold Oper.quietAt at hq
   unfold Oper.still
   generalize (execOp a.eval o).run P W = r at hq
   cases r with
   | ok n w' =>
    cases n with
    | value u => obtain ⟨h1, h2⟩ := hq; subst h2; exact ⟨h1, wpStill_of_quiet rest _ hn⟩
    | skip => obtain ⟨h1, h2⟩ := hq; subst h2; exact ⟨h1, wpStill_of_quiet rest _ hn⟩
    | enter f args => obtain ⟨h1, h2⟩ := hq; exact ⟨h1, v, h2, wpStill_of_quiet rest _ hn⟩
    | _ => exact hq.elim
   | halt x w' => exact hq.elim
  ·rename_i hw
   rw [if_neg hw] at h
   exact wpStill_of_quiet rest _ h

theorem wp_region_tail_quiet {P : Program} {id : Nat} {Q : Exit → Act → World → Prop} {a : Act} {w : World} {l : List Oper} (n : Nat) (hm : P.follows .mixedOrders = true) (hB : Region.lexTailB .any l.toArray n = true)
  (h : wpQuiet P l.toArray (fun w' => w' = w.drew) (fun a' => wpList P l.toArray Q (l.drop n) a' w.drew) (l.take n) a) : (Code.region id l.toArray true).wp P Q a w :=
 wp_region_still_tail n hm hB (wpStill_of_quiet _ _ h)

/-- The first n operations from k on come up one by one, forced. -/
def headB (md : Region.Mode) (ops : Array Oper) : Nat → Nat → Array Bool → Bool
 | 0, _, _ => true
 | n + 1, k, listed => decide (Region.ready md ops listed = [k]) && headB md ops n (k + 1) (listed.setIfInBounds k true)

def markB : Nat → Nat → Array Bool → Array Bool
 | 0, _, listed => listed
 | n + 1, k, listed => markB n (k + 1) (listed.setIfInBounds k true)

/-- What stands behind a forced head: a walk that only reads. -/
def QuietNext (P : Program) (ops : Array Oper) (Q : Exit → Act → World → Prop) (l : List Oper) : Exit → Act → World → Prop
 | .normal, a, w => wpQuiet P ops (fun w' => ∃ n, w' = w.drewN n) (fun a' => ∀ w', (∃ n, w' = w.drewN n) → Q .normal a' w') l a
 | e, a, w => Q e a w

theorem QuietNext.of {P : Program} {ops : Array Oper} {Q : Exit → Act → World → Prop} {l : List Oper} {a : Act} {w : World}
  (h : wpQuiet P ops (fun w' => ∃ n, w' = w.drewN n) (fun a' => ∀ w', (∃ n, w' = w.drewN n) → Q .normal a' w') l a) : QuietNext P ops Q l .normal a w := h

theorem wp_q {P : Program} {o : Oper} {a : Act} {w : World} {K : Act → World → Prop} {Q Q' : Exit → Act → World → Prop} (h : ∀ e a w, e ≠ .normal → Q e a w → Q' e a w) (hh : o.wp P a w K Q) : o.wp P a w K Q' := by
 unfold Oper.wp at *
 generalize (execOp a.eval o).run P w = r at *
 cases r with
 | ok n w' =>
  cases n <;> simp only [Oper.upon] at hh ⊢ <;>
   first
    | exact hh
    | exact Calls.mono hh (fun e w'' he => by
      cases e with
      | returned v => exact he
      | panicked c => exact h _ _ _ (by simp) he
      | outgrown => obtain ⟨a, w, g⟩ := he; exact ⟨a, w, h _ _ _ (by simp) g⟩)
 | halt x w' =>
  cases x <;> simp only [Oper.upon] at hh ⊢ <;> first | exact hh | exact h _ _ _ (by simp) hh

end Go.Proofs.YtgobbecpnjelmaaGreat

namespace Go.Proofs.YtgobbecpnjelmaaGreat
open Go.RowKit

def lowN : Nat → Nat
 | 0 => 0
 | k + 1 => lowN k + 1073741824 / (k + 1)

def brokN : Nat → Nat
 | 0 => 0
 | k + 1 => brokN k + if 1073741824 % (k + 1) = 0 then 0 else 1

def heldN (n : Int) : Nat := (clampI n 0 256).toNat

/-- Both ends of an average of so many points. -/
def loN (k : Nat) : Int := if k < 2 then 0 else 2 * (lowN (k - 1) : Int) - ((2147483648 * (k - 1) + k - 1) / k : Nat)

def hiN (k : Nat) : Int := if k < 2 then 0 else 2 * ((lowN (k - 1) : Int) + brokN (k - 1)) - (2147483648 * (k - 1) / k : Nat)

def normI (n : Int) : Int := (loN (heldN n) + hiN (heldN n)) / 2

end Go.Proofs.YtgobbecpnjelmaaGreat
