/-
  WoodR: Plain laws of layer 23: sizes behind the reading; the bytes of a tree are read as it was.
  VecA: Walks of package vec (Is, Parts, Dot) and of copseref08: vectors and the parts of planes.
  VecB: Walks of package vec (ends, Parts, Dot).
  VecC: Walks: the product of parts and a vector (vec.Dot, copseref08.Dot), copseref08.Is, copseref08.Parts.
  MemT: How trees lie in memory.
  CutA: Walks: cut.Is, cut.Left, copseref09.Is, copseref09.Left, tree.leaf: what is right of a cut, and where a vector goes by it.
  NumA: Walks of package num: the functions on numbers alone.
  Tail: A region that draws its order: the operations that only read first, in the text's order, then the forced tail.
  HarmA: Walks of package harm and of copseref05: the average of a number of points.
  TreeQ: Plain laws of trees: how deep nodes are, the leaves in their order, how long paths are.
  Same01: Walk of copseref01.Same: whether two lists of integers are the same.
  RowM: Rows of the call's own: their cells, overwritten, copied, cut and grown.
  OwnO: Own rows over changes of other blocks; which blocks have changed; make with room; append and clear in a region.
  Lex: A drawn region, walked by hand: what only reads is taken first, an operation that is not wanted is passed by, what makes memory comes up one by one.
  OwnT: Rows of the call's own: of integers, of nodes; append to them.
  BinS: Walk of copseref21's reader of lists.
  BinT: Walk of copselaw21.ask: a reader is asked, both ways.
  LexB: A drawn region with a barrier: a store into a cell that the region loads, behind all loads: the cells must hold as they were up to the barrier alone.
  Tail2: A region that draws its order: three operations that look at no memory, a forced head (calls), behind it operations that only read.
  RefLog: Walk of copseref01.Log.
  HarmB: Walks of copseref05: the average of a number of points.
  App1: Append of one element at a step of a region that draws its order.
  App2: Append of a whole list of integers at a step of a region that draws its order.
-/
import Derived.Test.YtdbonlpkmncggaaJ0a
import Derived.Deep.DeepCutAuto
import Derived.Deep.CutBlock
import Derived.Test.YtdbonlpkmncggaaShelf
import Derived.StillTailTactics
import Derived.Deep.Quiet
import Derived.Lib.Overlaps
import Derived.Laws.Externs
import Derived.Laws.IdiomCopy
import Derived.Lib.AppendZeros
import Derived.Deep.AppendSrc
import Derived.Laws.OwnMore
import Derived.Deep.RegionHeld3
import Derived.Lib.ItoaNum
namespace Go.Proofs.Ytdbonlpkmncggaa

namespace BT
def hgt : BT → Nat
  | leaf _ => 0
  | node _ _ l r => 1 + max l.hgt r.hgt
def Ok (d : Nat) : BT → Prop
  | leaf s => 1 ≤ s ∧ s ≤ 64
  | node c a l r => c.length = d ∧ (∀ x ∈ c, Ok64 x) ∧ Ok64 a ∧ l.Ok d ∧ r.Ok d

theorem root : ∀ (T : BT) (p : Nat), ∃ n, (T.flat p)[0]? = some n ∧ n.size = T.siz
  | leaf _, _ => ⟨_, rfl, rfl⟩
  | node _ _ _ _, _ => ⟨_, rfl, rfl⟩

theorem flat_at : ∀ (T : BT) (p j : Nat) (n : NodeP), (T.flat p)[j]? = some n → ∃ m, (T.raw p)[j]? = some m ∧
    ((n.left = 0 ∧ m = n) ∨ (n.left = ((p + j + 1 : Nat) : Int) ∧ m = { n with size := 0 } ∧ ∃ (r : Nat) (nl nr : NodeP), n.right = ((p + r : Nat) : Int) ∧ j + 1 < r ∧ (T.flat p)[j + 1]? = some nl ∧ (T.flat p)[r]? = some nr ∧ n.size = nl.size + nr.size))
  | leaf s, p, j, n, h => by
    cases j with
    | zero =>
      obtain rfl : (⟨[], 0, 0, 0, s⟩ : NodeP) = n := by simpa [flat] using h
      exact ⟨_, rfl, .inl ⟨rfl, rfl⟩⟩
    | succ j => simp [flat] at h
  | node c a l r, p, j, n, h => by
    cases j with
    | zero =>
      obtain rfl : (⟨c, a, (p : Int) + 1, ((p + 1 + l.cnt : Nat) : Int), l.siz + r.siz⟩ : NodeP) = n := by simpa [flat] using h
      obtain ⟨nl, h1, h2⟩ := l.root (p + 1)
      obtain ⟨nr, h3, h4⟩ := r.root (p + 1 + l.cnt)
      have hc := l.cnt_pos
      refine ⟨_, rfl, .inr ⟨by simp, rfl, 1 + l.cnt, nl, nr, by show ((p + 1 + l.cnt : Nat) : Int) = _; rw [Nat.add_assoc], by omega, ?_, ?_, by rw [h2, h4]⟩⟩
      · rw [flat, List.getElem?_cons_succ, List.getElem?_append_left (by rw [flat_len]; omega)]
        exact h1
      · rw [flat, Nat.add_comm 1, List.getElem?_cons_succ, List.getElem?_append_right (by rw [flat_len]; exact Nat.le_refl _), flat_len, Nat.sub_self]
        exact h3
    | succ j =>
      rw [flat, List.getElem?_cons_succ] at h
      by_cases hj : j < l.cnt
      · rw [List.getElem?_append_left (by rw [flat_len]; exact hj)] at h
        obtain ⟨m, h1, h2⟩ := flat_at l (p + 1) j n h
        refine ⟨m, ?_, ?_⟩
        · rw [raw, List.getElem?_cons_succ, List.getElem?_append_left (by rw [raw_len]; exact hj)]
          exact h1
        · rcases h2 with h2 | ⟨g1, g2, q, nl, nr, g3, g4, g5, g6, g7⟩
          · exact .inl h2
          · have hq : q < l.cnt := by rw [← flat_len l (p + 1)]; exact (List.getElem?_eq_some_iff.1 g6).1
            refine .inr ⟨by rw [g1]; congr 1; omega, g2, q + 1, nl, nr, by rw [g3]; congr 1; omega, by omega, ?_, ?_, g7⟩
            · rw [flat, List.getElem?_cons_succ, List.getElem?_append_left (by rw [flat_len]; omega)]
              exact g5
            · rw [flat, List.getElem?_cons_succ, List.getElem?_append_left (by rw [flat_len]; omega)]
              exact g6
      · rw [List.getElem?_append_right (by rw [flat_len]; omega), flat_len] at h
        obtain ⟨m, h1, h2⟩ := flat_at r (p + 1 + l.cnt) (j - l.cnt) n h
        refine ⟨m, ?_, ?_⟩
        · rw [raw, List.getElem?_cons_succ, List.getElem?_append_right (by rw [raw_len]; omega), raw_len]
          exact h1
        · rcases h2 with h2 | ⟨g1, g2, q, nl, nr, g3, g4, g5, g6, g7⟩
          · exact .inl h2
          · refine .inr ⟨by rw [g1]; congr 1; omega, g2, q + l.cnt + 1, nl, nr, by rw [g3]; congr 1; omega, by omega, ?_, ?_, g7⟩
            · rw [flat, List.getElem?_cons_succ, List.getElem?_append_right (by rw [flat_len]; omega), flat_len, show j + 1 - l.cnt = j - l.cnt + 1 by omega]
              exact g5
            · rw [flat, List.getElem?_cons_succ, List.getElem?_append_right (by rw [flat_len]; omega), flat_len, show q + l.cnt - l.cnt = q by omega]
              exact g6

theorem siz_bd {d : Nat} : ∀ T : BT, T.Ok d → 1 ≤ T.siz ∧ T.siz ≤ 64 * (T.cnt : Int)
  | leaf s, h => by
    have h1 := h.1
    have h2 := h.2
    show 1 ≤ (s : Int) ∧ (s : Int) ≤ 64 * ((1 : Nat) : Int)
    omega
  | node c a l r, h => by
    obtain ⟨_, _, _, h1, h2⟩ := h
    have g1 := siz_bd l h1
    have g2 := siz_bd r h2
    show 1 ≤ l.siz + r.siz ∧ l.siz + r.siz ≤ 64 * ((1 + l.cnt + r.cnt : Nat) : Int)
    omega

theorem cnt_bd : ∀ (T : BT) (h : Nat), T.hgt < h → T.cnt + 1 ≤ 2 ^ h
  | leaf s, h, hh => by
    have : 2 ^ 1 ≤ 2 ^ h := Nat.pow_le_pow_right (by omega) (by omega)
    show 1 + 1 ≤ _
    omega
  | node c a l r, 0, hh => by omega
  | node c a l r, h + 1, hh => by
    have hm : 1 + max l.hgt r.hgt < h + 1 := hh
    have g1 := cnt_bd l h (by omega)
    have g2 := cnt_bd r h (by omega)
    show 1 + l.cnt + r.cnt + 1 ≤ 2 ^ (h + 1)
    rw [Nat.pow_succ]
    omega

theorem flat_size {d : Nat} : ∀ (T : BT) (p j : Nat) (n : NodeP), T.Ok d → (T.flat p)[j]? = some n → 1 ≤ n.size ∧ n.size ≤ 64 * (T.cnt : Int)
  | leaf s, p, j, n, ho, h => by
    cases j with
    | zero =>
      obtain rfl : (⟨[], 0, 0, 0, s⟩ : NodeP) = n := by simpa [flat] using h
      exact siz_bd (leaf s) ho
    | succ j => simp [flat] at h
  | node c a l r, p, j, n, ho, h => by
    cases j with
    | zero =>
      obtain rfl : (⟨c, a, (p : Int) + 1, ((p + 1 + l.cnt : Nat) : Int), l.siz + r.siz⟩ : NodeP) = n := by simpa [flat] using h
      exact siz_bd (node c a l r) ho
    | succ j =>
      rw [flat, List.getElem?_cons_succ] at h
      have hc : ((node c a l r).cnt : Int) = 1 + l.cnt + r.cnt := by show ((1 + l.cnt + r.cnt : Nat) : Int) = _; omega
      by_cases hj : j < l.cnt
      · rw [List.getElem?_append_left (by rw [flat_len]; exact hj)] at h
        have := flat_size l (p + 1) j n ho.2.2.2.1 h
        omega
      · rw [List.getElem?_append_right (by rw [flat_len]; omega), flat_len] at h
        have := flat_size r (p + 1 + l.cnt) (j - l.cnt) n ho.2.2.2.2 h
        omega

theorem enc_all : ∀ T : BT, AllB T.enc
  | leaf s => putsU_all s
  | node c a l r => by
    intro x hx
    unfold enc at hx
    simp only [List.cons_append, List.mem_cons, List.mem_append] at hx
    rcases hx with rfl | (hx | hx) | hx | hx
    · omega
    · exact putsIs_all c x hx
    · exact putsU_all _ x hx
    · exact enc_all l x hx
    · exact enc_all r x hx
end BT

theorem rdXs_64 {l : List Int} (hb : AllB l) (a : Nat) (e : Int) : ∀ n, ∀ x ∈ (rdXs l n a e).1, Ok64 x
  | 0, x, hx => by simp [rdXs] at hx
  | n + 1, x, hx => by
    rw [rdXs, List.mem_append, List.mem_singleton] at hx
    rcases hx with hx | rfl
    · exact rdXs_64 hb a e n x hx
    · exact rdI'_64 hb _ _

theorem rdB_ok {l : List Int} (hb : AllB l) (d : Nat) : ∀ (h a : Nat) (T : BT) (p : Nat) (e : Int), rdB l d h a = (some T, p, e) → T.Ok d ∧ T.hgt < h
  | 0, a, T, p, e, hh => by unfold rdB at hh; injection hh with hh; cases hh
  | h + 1, a, T, p', e', hh => by
    rcases h1 : rdN' l a 0 64 with ⟨s, p, e⟩
    by_cases he : e = 0
    · subst he
      have hlt := (rdN'_facts l hb a 0 64).2 (by rw [h1])
      rw [h1] at hlt
      simp only at hlt
      by_cases hs : s = 0
      · subst hs
        rcases h2 : rdXs l d p 0 with ⟨c, p1, e1⟩
        have hc1 := rdXs_len l p 0 d
        have hc2 := rdXs_64 hb p 0 d
        rw [h2] at hc1 hc2
        rcases h3 : rdI' l p1 e1 with ⟨x, p2, e2⟩
        have hx := rdI'_64 hb p1 e1
        rw [h3] at hx
        rw [rdB_node h1 h2 h3] at hh
        by_cases he2 : e2 = 0
        · subst he2
          rw [if_neg (by simp)] at hh
          rcases r1 : rdB l d h p2 with ⟨_ | L, p3, e3⟩
          · rw [r1] at hh; injection hh with hh; cases hh
          · rw [r1] at hh
            simp only at hh
            rcases r2 : rdB l d h p3 with ⟨_ | R, p4, e4⟩
            · rw [r2] at hh; injection hh with hh; cases hh
            · rw [r2] at hh
              injection hh with hh _
              injection hh with hh
              subst hh
              have g1 := rdB_ok hb d h _ _ _ _ r1
              have g2 := rdB_ok hb d h _ _ _ _ r2
              refine ⟨⟨hc1, hc2, hx, g1.1, g2.1⟩, ?_⟩
              show 1 + max L.hgt R.hgt < h + 1
              have := g1.2
              have := g2.2
              omega
        · rw [if_pos he2] at hh; injection hh with hh; cases hh
      · rw [rdB_leaf h1 hs] at hh
        injection hh with hh _
        injection hh with hh
        subst hh
        refine ⟨⟨by omega, by omega⟩, Nat.succ_pos h⟩
    · rw [rdB_bad h1 he] at hh; injection hh with hh; cases hh

theorem rdXs_puts (pre : List Int) : ∀ (c rest : List Int), (∀ x ∈ c, Ok64 x) → rdXs (pre ++ (putsIs c ++ rest)) c.length pre.length 0 = (c, pre.length + (putsIs c).length, 0) := by
  intro c
  refine snocInd (P := fun c => ∀ rest : List Int, (∀ x ∈ c, Ok64 x) → rdXs (pre ++ (putsIs c ++ rest)) c.length pre.length 0 = (c, pre.length + (putsIs c).length, 0)) ?_ ?_ c
  · intro rest _
    rfl
  · intro c x ih rest h
    have h1 := ih (putsI x ++ rest) fun y hy => h y (by simp [hy])
    have h2 := rdI_puts (pre ++ putsIs c) rest x (h x (by simp))
    rw [putsIs_snoc, List.append_assoc, List.length_append, List.length_singleton]
    have h3 : rdI' (pre ++ (putsIs c ++ (putsI x ++ rest))) (pre.length + (putsIs c).length) 0 = (x, pre.length + (putsIs c ++ putsI x).length, 0) := by
      unfold rdI'
      rw [if_pos rfl, ← List.append_assoc, ← List.length_append, h2, List.length_append, List.length_append, Nat.add_assoc]
    exact rdXs_next h1 h3

theorem rdB_puts {d : Nat} : ∀ (T : BT) (h : Nat) (pre rest : List Int), T.Ok d → T.hgt < h → rdB (pre ++ (T.enc ++ rest)) d h pre.length = (some T, pre.length + T.enc.length, 0)
  | .leaf s, 0, pre, rest, ho, hh => absurd hh (Nat.not_lt_zero _)
  | .leaf s, h + 1, pre, rest, ho, hh => by
    have h1 : rdN' (pre ++ (putsU s ++ rest)) pre.length 0 64 = (s, pre.length + (putsU s).length, 0) := by
      unfold rdN'
      rw [if_pos rfl]
      exact rdN_puts pre rest s (by have := ho.2; omega) 64 (by have := ho.2; omega)
    have := ho.1
    exact rdB_leaf h1 (by omega)
  | .node c a l r, 0, pre, rest, ho, hh => absurd hh (Nat.not_lt_zero _)
  | .node c a l r, h + 1, pre, rest, ho, hh => by
    obtain ⟨o1, o2, o3, o4, o5⟩ := ho
    have hm : 1 + max l.hgt r.hgt < h + 1 := hh
    have e0 : pre ++ ((BT.node c a l r).enc ++ rest) = pre ++ (putsU 0 ++ (putsIs c ++ (putsI a ++ (l.enc ++ (r.enc ++ rest))))) := by
      show pre ++ ((0 :: (putsIs c ++ putsI a) ++ (l.enc ++ r.enc)) ++ rest) = _
      rw [show putsU 0 = [0] from rfl]
      simp [List.append_assoc]
    rw [e0]
    have h1 : rdN' (pre ++ (putsU 0 ++ (putsIs c ++ (putsI a ++ (l.enc ++ (r.enc ++ rest)))))) pre.length 0 64 = (0, pre.length + 1, 0) := by
      unfold rdN'
      rw [if_pos rfl]
      exact rdN_puts pre _ 0 (by omega) 64 (by omega)
    have a1 : pre ++ (putsU 0 ++ (putsIs c ++ (putsI a ++ (l.enc ++ (r.enc ++ rest))))) = (pre ++ [0]) ++ (putsIs c ++ (putsI a ++ (l.enc ++ (r.enc ++ rest)))) := by rw [List.append_assoc]; rfl
    have h2 : rdXs (pre ++ (putsU 0 ++ (putsIs c ++ (putsI a ++ (l.enc ++ (r.enc ++ rest)))))) d (pre.length + 1) 0 = (c, pre.length + 1 + (putsIs c).length, 0) := by
      have := rdXs_puts (pre ++ [0]) c (putsI a ++ (l.enc ++ (r.enc ++ rest))) o2
      rw [o1, List.length_append, List.length_singleton] at this
      rw [a1]
      exact this
    have a2 : pre ++ (putsU 0 ++ (putsIs c ++ (putsI a ++ (l.enc ++ (r.enc ++ rest))))) = (pre ++ [0] ++ putsIs c) ++ (putsI a ++ (l.enc ++ (r.enc ++ rest))) := by rw [a1, ← List.append_assoc]
    have h3 : rdI' (pre ++ (putsU 0 ++ (putsIs c ++ (putsI a ++ (l.enc ++ (r.enc ++ rest)))))) (pre.length + 1 + (putsIs c).length) 0 = (a, pre.length + 1 + (putsIs c).length + (putsI a).length, 0) := by
      have := rdI_puts (pre ++ [0] ++ putsIs c) (l.enc ++ (r.enc ++ rest)) a o3
      rw [List.length_append, List.length_append, List.length_singleton] at this
      unfold rdI'
      rw [if_pos rfl, a2]
      exact this
    rw [rdB_node h1 h2 h3, if_neg (by simp)]
    have a3 : pre ++ (putsU 0 ++ (putsIs c ++ (putsI a ++ (l.enc ++ (r.enc ++ rest))))) = (pre ++ [0] ++ putsIs c ++ putsI a) ++ (l.enc ++ (r.enc ++ rest)) := by rw [a2, ← List.append_assoc]
    have r1 := rdB_puts l h (pre ++ [0] ++ putsIs c ++ putsI a) (r.enc ++ rest) o4 (by omega)
    rw [← a3] at r1
    have l1 : (pre ++ [0] ++ putsIs c ++ putsI a).length = pre.length + 1 + (putsIs c).length + (putsI a).length := by simp [List.length_append]; omega
    rw [l1] at r1
    rw [r1]
    have a4 : pre ++ (putsU 0 ++ (putsIs c ++ (putsI a ++ (l.enc ++ (r.enc ++ rest))))) = (pre ++ [0] ++ putsIs c ++ putsI a ++ l.enc) ++ (r.enc ++ rest) := by rw [a3, ← List.append_assoc]
    have r2 := rdB_puts r h (pre ++ [0] ++ putsIs c ++ putsI a ++ l.enc) rest o5 (by omega)
    rw [← a4, List.length_append, l1] at r2
    simp only [r2]
    have l2 : (BT.node c a l r).enc.length = 1 + (putsIs c).length + (putsI a).length + l.enc.length + r.enc.length := by
      show (0 :: (putsIs c ++ putsI a) ++ (l.enc ++ r.enc)).length = _
      simp [List.length_append]
      omega
    rw [l2]
    simp only [Prod.mk.injEq, true_and, and_true]
    omega
end Go.Proofs.Ytdbonlpkmncggaa

namespace Go.Proofs.Ytdbonlpkmncggaa
open Go.RowKit

def isC (x : Int) : Bool := decide (-4 ≤ x) && decide (x ≤ 4)

theorem all_step {p : Int → Bool} {l : List Int} {k : Nat} {x : Int} (hx : l[k]? = some x) : (l.take (k + 1)).all p = ((l.take k).all p && p x) := by
  rw [take_snoc' hx, List.all_append]; simp
theorem any_step {p : Int → Bool} {l : List Int} {k : Nat} {x : Int} (hx : l[k]? = some x) : (l.take (k + 1)).any p = ((l.take k).any p || p x) := by
  rw [take_snoc' hx, List.any_append]; simp

def preB (l : List Int) (dim : Int) : Bool := decide (1 ≤ dim) && decide (dim ≤ 8) && decide ((l.length : Int) = dim)

theorem partsB_is (l : List Int) (dim : Int) : partsB l dim = (preB l dim && l.all isC && l.any fun x => decide (x ≠ 0)) := rfl

theorem all_false_of_take {p : Int → Bool} {l : List Int} {k : Nat} (h : (l.take k).all p = false) : l.all p = false := by
  rw [← List.take_append_drop k l, List.all_append, h, Bool.false_and]

end Go.Proofs.Ytdbonlpkmncggaa

namespace Go.Proofs.Ytdbonlpkmncggaa
open Go.RowKit

def minL : List Int → Int
  | [] => 0
  | x :: l => l.foldl min x
def maxL : List Int → Int
  | [] => 0
  | x :: l => l.foldl max x

theorem min_le_of : ∀ (l : List Int) (x z : Int), l.foldl min x ≤ z ↔ x ≤ z ∨ ∃ y ∈ l, y ≤ z
  | [], x, z => by simp
  | y :: l, x, z => by
    rw [List.foldl_cons, min_le_of l]
    simp only [List.mem_cons, exists_eq_or_imp]
    rw [show min x y ≤ z ↔ x ≤ z ∨ y ≤ z by omega]
    constructor
    · rintro ((h | h) | h)
      · exact .inl h
      · exact .inr (.inl h)
      · exact .inr (.inr h)
    · rintro (h | h | h)
      · exact .inl (.inl h)
      · exact .inl (.inr h)
      · exact .inr h

theorem le_max_of : ∀ (l : List Int) (x z : Int), z ≤ l.foldl max x ↔ z ≤ x ∨ ∃ y ∈ l, z ≤ y
  | [], x, z => by simp
  | y :: l, x, z => by
    rw [List.foldl_cons, le_max_of l]
    simp only [List.mem_cons, exists_eq_or_imp]
    rw [show z ≤ max x y ↔ z ≤ x ∨ z ≤ y by omega]
    constructor
    · rintro ((h | h) | h)
      · exact .inl h
      · exact .inr (.inl h)
      · exact .inr (.inr h)
    · rintro (h | h | h)
      · exact .inl (.inl h)
      · exact .inl (.inr h)
      · exact .inr h

theorem minL_le {l : List Int} (hl : l ≠ []) (z : Int) : minL l ≤ z ↔ ∃ y ∈ l, y ≤ z := by
  cases l with
  | nil => exact absurd rfl hl
  | cons x l => rw [minL, min_le_of]; simp
theorem le_maxL {l : List Int} (hl : l ≠ []) (z : Int) : z ≤ maxL l ↔ ∃ y ∈ l, z ≤ y := by
  cases l with
  | nil => exact absurd rfl hl
  | cons x l => rw [maxL, le_max_of]; simp

theorem ends_all {l : List Int} (hl : l ≠ []) : l.all isC = (decide (-4 ≤ minL l) && decide (maxL l ≤ 4)) := by
  rw [Bool.eq_iff_iff, List.all_eq_true, Bool.and_eq_true, decide_eq_true_eq, decide_eq_true_eq]
  constructor
  · intro h
    have h' : ∀ x ∈ l, -4 ≤ x ∧ x ≤ 4 := fun x hx => by have := h x hx; unfold isC at this; simpa using this
    refine ⟨Int.not_lt.1 fun hc => ?_, Int.not_lt.1 fun hc => ?_⟩
    · obtain ⟨y, hy, h2⟩ := (minL_le hl (-5)).1 (by omega)
      have := h' y hy; omega
    · obtain ⟨y, hy, h2⟩ := (le_maxL hl 5).1 (by omega)
      have := h' y hy; omega
  · intro ⟨h1, h2⟩ x hx
    have a := (minL_le hl x).2 ⟨x, hx, by omega⟩
    have b := (le_maxL hl x).2 ⟨x, hx, by omega⟩
    unfold isC
    simp
    omega

theorem ends_any0 {l : List Int} (hl : l ≠ []) : (l.any fun x => decide (x ≠ 0)) = (decide (minL l < 0) || decide (0 < maxL l)) := by
  rw [Bool.eq_iff_iff, List.any_eq_true, Bool.or_eq_true, decide_eq_true_eq, decide_eq_true_eq]
  constructor
  · rintro ⟨x, hx, h⟩
    have h : x ≠ 0 := by simpa using h
    have a := (minL_le hl x).2 ⟨x, hx, by omega⟩
    have b := (le_maxL hl x).2 ⟨x, hx, by omega⟩
    omega
  · rintro (h | h)
    · obtain ⟨y, hy, h2⟩ := (minL_le hl (-1)).1 (by omega)
      exact ⟨y, hy, by simp; omega⟩
    · obtain ⟨y, hy, h2⟩ := (le_maxL hl 1).1 (by omega)
      exact ⟨y, hy, by simp; omega⟩

theorem int_min (a x : Int) : (if x < a then x else a) = min a x := by split <;> omega
theorem int_max (a x : Int) : (if a < x then x else a) = max a x := by split <;> omega

theorem foldl_step {f : Int → Int → Int} {l : List Int} {k : Nat} {x a : Int} (hx : l[k]? = some x) : (l.take (k + 1)).foldl f a = f ((l.take k).foldl f a) x := by
  rw [take_snoc' hx, List.foldl_append]; rfl

set_option maxHeartbeats 1000000 in
theorem vends_any (v : Value) (x0 : Int) (l : List Int) (w : World) (h : Ints .i64 w v (x0 :: l)) :
    Calls Try.prog 124 #[v] w fun e w' => e = .returned (.tuple #[.int .i64 (l.foldl min x0), .int .i64 (l.foldl max x0)]) ∧ ∃ n, w' = w.drewN n := by
  obtain ⟨a, c, rfl, h1, h2, h3, h⟩ := h
  obtain ⟨b, o, rfl, hb0, hc0⟩ := h 0 x0 rfl
  rw [Nat.add_zero] at hc0
  have h : ∀ i x, l[i]? = some x → w.cell? ⟨b, o + 1 + i, none⟩ = some (.int .i64 x) := fun i x hi => by
    obtain ⟨b', o', e, _, hc⟩ := h (i + 1) x (by simpa using hi)
    injection e with e
    injection e with e1 e2 e3
    subst e1 e2
    rw [← hc, show o + 1 + i = o + (i + 1) by omega]
  rw [List.length_cons] at h1 h3 ⊢
  have H := Lib.hid h
  obtain ⟨m, hm⟩ : ∃ m, l.length + 1 = m := ⟨_, rfl⟩
  rw [hm] at h1 h3 ⊢
  have HM := Lib.hid hm
  have i4 : (m : Int) ≤ c := by omega
  have i5 : (0 : Int) < m := by omega
  have i6 : (1 : Int) ≤ m := by omega
  clear h hm
  go_enter Try.func124, Try.ntmps124
  go_wp2_with fail
  go_quiet (fail)
  go_upto_region 2 with fail
  go_cut [15, 16, 17] (fun s n i wx => ∃ ad cc, s = .slice ad l.length cc ∧ n = .int .i64 l.length ∧ i = .int .i64 0 ∧ (0 < l.length → ad = some ⟨b, o + 1, none⟩) ∧ ∃ d, wx = w.drewN d)
  case first =>
    by_cases hc1 : c = 1
    · subst hc1
      go_wp2_with fail
      go_meet
      case rel => have hm1 := HM.out; exact ⟨_, 0, by rw [show l.length = 0 by omega], by rw [show l.length = 0 by omega]; rfl, rfl, fun h => by omega, _, rfl⟩
    · have i7 : 1 < c := by omega
      go_wp2_with fail
      go_meet
      case rel => have hm1 := HM.out; exact ⟨_, c - 1, by rw [show m - 1 = l.length by omega], by rw [show m - 1 = l.length by omega], rfl, fun _ => rfl, _, rfl⟩
  case rest =>
    obtain ⟨ad, cc, rfl, rfl, rfl, had, d, rfl⟩ := hcut
    have HAD := Lib.hid had
    clear had
    go_wp2_with fail
    go_loopw [4, 5, 7, 17] (fun lo hi _ i wr => ∃ k : Nat, i = .int .i64 k ∧ k ≤ l.length ∧ lo = .int .i64 ((l.take k).foldl min x0) ∧ hi = .int .i64 ((l.take k).foldl max x0) ∧ w.drewN d = wr) (fun _ _ _ i _ => l.length - (intOf i).toNat)
    case atStart => exact ⟨0, rfl, by omega, by simp, by simp, rfl⟩
    case round =>
      obtain ⟨k, rfl, hk, rfl, rfl, rfl⟩ := hrel
      by_cases hlt : k < l.length
      · obtain ⟨x, hx⟩ := getElem?_ex hlt
        obtain rfl := HAD.out (by omega)
        have hc1 := H.out k x hx
        have HS1 := Lib.hid (foldl_step (f := min) (a := x0) hx)
        have HS2 := Lib.hid (foldl_step (f := max) (a := x0) hx)
        have i1 : (0 : Int) ≤ (k : Int) := by omega
        have i2 : (k : Int) < (l.length : Int) := by omega
        have i3 : (k : Int) ≤ 140737488351232 := by have := HM.out; omega
        clear hx
        obtain ⟨A, hA⟩ : ∃ A, (l.take k).foldl min x0 = A := ⟨_, rfl⟩
        obtain ⟨B, hB⟩ : ∃ B, (l.take k).foldl max x0 = B := ⟨_, rfl⟩
        rw [hA] at HS1 ⊢
        rw [hB] at HS2 ⊢
        clear hA hB
        go_wp2_with fail
        go_roundw
        case rel => exact ⟨k + 1, by go_num, by omega, by first | rw [HS1.out, int_min] | rw [HS1.out], by first | rw [HS2.out, int_max] | rw [HS2.out], trivial⟩
        case measure => simp [intOf] <;> omega
      · obtain rfl : k = l.length := by omega
        go_wp2_with fail
        exact bodyPost_ret (v := .tuple #[.int .i64 (l.foldl min x0), .int .i64 (l.foldl max x0)]) (by simp [results, Try.results124, go_sem]) rfl ⟨rfl, _, rfl⟩

theorem parts_not {l : List Int} {dim : Int} (h : preB l dim = false) : partsB l dim = false := by rw [partsB_is, h]; rfl
theorem pre_1 {l : List Int} {dim : Int} (h : ¬ 1 ≤ dim) : preB l dim = false := by unfold preB; simp [h]
theorem pre_2 {l : List Int} {dim : Int} (h : ¬ dim ≤ 8) : preB l dim = false := by unfold preB; simp [h]
theorem pre_3 {l : List Int} {dim : Int} (h : ¬ (l.length : Int) = dim) : preB l dim = false := by unfold preB; simp [h]
theorem pre_yes {l : List Int} {dim : Int} (h1 : 1 ≤ dim) (h2 : dim ≤ 8) (h3 : (l.length : Int) = dim) : preB l dim = true := by unfold preB; simp [h1, h2, h3]

theorem parts_ends {x0 : Int} {l : List Int} {dim : Int} (h : preB (x0 :: l) dim = true) :
    partsB (x0 :: l) dim = (decide (-4 ≤ l.foldl min x0) && decide (l.foldl max x0 ≤ 4) && (decide (l.foldl min x0 < 0) || decide (0 < l.foldl max x0))) := by
  have h0 : x0 :: l ≠ [] := by simp
  rw [partsB_is, h, ends_all h0, ends_any0 h0, Bool.true_and]
  rfl

set_option maxHeartbeats 1000000 in
theorem vparts_any (v : Value) (l : List Int) (dim : Int) (w : World) (h : Ints .i64 w v l) :
    Calls Try.prog 112 #[v, .int .i64 dim] w fun e w' => e = .returned (.bool (partsB l dim)) ∧ ∃ n, w' = w.drewN n := by
  by_cases h1 : 1 ≤ dim
  · by_cases h2 : dim ≤ 8
    · by_cases h4 : (l.length : Int) = dim
      · cases l with
        | nil => simp at h4; omega
        | cons x0 l =>
          rw [parts_ends (pre_yes h1 h2 h4)]
          have HC := Lib.hid (fun W (hW : Ints .i64 W v (x0 :: l)) => vends_any v x0 l W hW)
          have HI := Lib.hid h
          obtain ⟨a, c, rfl, _⟩ := h
          generalize l.foldl min x0 = A at *
          generalize l.foldl max x0 = B at *
          obtain ⟨m, hm⟩ : ∃ m, (x0 :: l).length = m := ⟨_, rfl⟩
          rw [hm] at h4 HC HI ⊢
          clear hm
          have h5 : ((m : Int) != dim) = false := by simp [h4]
          by_cases g1 : -4 ≤ A
          · by_cases g2 : B ≤ 4
            · by_cases g3 : A < 0
              · rw [show (decide (-4 ≤ A) && decide (B ≤ 4) && (decide (A < 0) || decide (0 < B))) = true by simp [g1, g2, g3]]
                go_enter Try.func112, Try.ntmps112
                go_wp2_with fail
                refine (HC.out _ HI.out).mono ?_
                rintro e w1 ⟨rfl, d, rfl⟩
                go_wp2_with fail
                go_ret
                exact ⟨rfl, _, rfl⟩
              · by_cases g4 : 0 < B
                · rw [show (decide (-4 ≤ A) && decide (B ≤ 4) && (decide (A < 0) || decide (0 < B))) = true by simp [g1, g2, g4]]
                  go_enter Try.func112, Try.ntmps112
                  go_wp2_with fail
                  refine (HC.out _ HI.out).mono ?_
                  rintro e w1 ⟨rfl, d, rfl⟩
                  go_wp2_with fail
                  go_ret
                  exact ⟨rfl, _, rfl⟩
                · rw [show (decide (-4 ≤ A) && decide (B ≤ 4) && (decide (A < 0) || decide (0 < B))) = false by simp [g3, g4]]
                  have G := Lib.hid (show (decide (A < 0) || decide (0 < B)) = false by simp [g3, g4])
                  go_enter Try.func112, Try.ntmps112
                  go_wp2_with fail
                  refine (HC.out _ HI.out).mono ?_
                  rintro e w1 ⟨rfl, d, rfl⟩
                  go_wp2_with fail
                  go_ret
                  exact ⟨ret_bool G.out, _, rfl⟩
            · rw [show (decide (-4 ≤ A) && decide (B ≤ 4) && (decide (A < 0) || decide (0 < B))) = false by simp [g2]]
              go_enter Try.func112, Try.ntmps112
              go_wp2_with fail
              refine (HC.out _ HI.out).mono ?_
              rintro e w1 ⟨rfl, d, rfl⟩
              go_wp2_with fail
              go_ret
              exact ⟨rfl, _, rfl⟩
          · rw [show (decide (-4 ≤ A) && decide (B ≤ 4) && (decide (A < 0) || decide (0 < B))) = false by simp [g1]]
            go_enter Try.func112, Try.ntmps112
            go_wp2_with fail
            refine (HC.out _ HI.out).mono ?_
            rintro e w1 ⟨rfl, d, rfl⟩
            go_wp2_with fail
            go_ret
            exact ⟨rfl, _, rfl⟩
      · rw [parts_not (pre_3 h4)]
        obtain ⟨a, c, rfl, _⟩ := h
        have h5 : ((l.length : Int) != dim) = true := by simp [h4]
        go_enter Try.func112, Try.ntmps112
        go_wp2_with fail
        go_ret
        exact ⟨rfl, 0, rfl⟩
    · rw [parts_not (pre_2 h2)]
      obtain ⟨a, c, rfl, _⟩ := h
      go_enter Try.func112, Try.ntmps112
      go_wp2_with fail
      go_ret
      exact ⟨rfl, 0, rfl⟩
  · rw [parts_not (pre_1 h1)]
    obtain ⟨a, c, rfl, _⟩ := h
    go_enter Try.func112, Try.ntmps112
    go_wp2_with fail
    go_ret
    exact ⟨rfl, 0, rfl⟩
end Go.Proofs.Ytdbonlpkmncggaa

namespace Go.Proofs.Ytdbonlpkmncggaa
open Go.RowKit

theorem partsB_yes {l : List Int} {dim : Int} (h : partsB l dim = true) : 1 ≤ dim ∧ dim ≤ 8 ∧ (l.length : Int) = dim ∧ l.all isC = true := by
  rw [partsB_is] at h
  unfold preB at h
  simp only [Bool.and_eq_true, decide_eq_true_eq] at h
  exact ⟨h.1.1.1.1, h.1.1.1.2, h.1.1.2, h.1.2⟩

set_option maxHeartbeats 1000000 in
theorem rparts_any (v : Value) (l : List Int) (dim : Int) (w : World) (h : Ints .i64 w v l) :
    Calls Try.prog 113 #[v, .int .i64 dim] w fun e w' => e = .returned (.bool (partsB l dim)) ∧ w = w' := by
  obtain ⟨a, c, rfl, _, _, h3, h⟩ := h
  have H := Lib.hid h; clear h
  rw [partsB_is]
  by_cases h1 : 1 ≤ dim
  · by_cases h2 : dim ≤ 8
    · by_cases h4 : (l.length : Int) = dim
      · rw [pre_yes h1 h2 h4, Bool.true_and]
        have h5 : ((l.length : Int) != dim) = false := by simp [h4]
        go_enter Try.func113, Try.ntmps113
        go_wp2_with fail
        go_loopw [5, 6] (fun s i wr => ∃ k : Nat, i = .int .i64 k ∧ k ≤ l.length ∧ (l.take k).all isC = true ∧ s = .bool ((l.take k).any fun x => decide (x ≠ 0)) ∧ w = wr) (fun _ i _ => l.length + 1 - (intOf i).toNat)
        case atStart => exact ⟨0, rfl, by omega, by simp, by simp, rfl⟩
        case round =>
          obtain ⟨k, rfl, hk, hA, rfl, rfl⟩ := hrel
          have HA := Lib.hid hA
          clear hA
          by_cases hlt : k < l.length
          · obtain ⟨x, hx⟩ := getElem?_ex hlt
            obtain ⟨b1, o1, rfl, hb1, hc1⟩ := H.out k x hx
            have hs := all_step (p := isC) hx
            have HS := Lib.hid hs
            have HS2 := Lib.hid (any_step (p := fun x => decide (x ≠ 0)) hx)
            have i1 : (0 : Int) ≤ (k : Int) := by omega
            have i2 : (k : Int) < (l.length : Int) := by omega
            have i3 : (k : Int) ≤ 140737488351232 := by omega
            obtain ⟨S, hS⟩ : ∃ S, ((l.take k).any fun x => decide (x ≠ 0)) = S := ⟨_, rfl⟩
            rw [hS] at HS2 ⊢
            clear hx hs hS
            by_cases g1 : -4 ≤ x
            · by_cases g2 : x ≤ 4
              · have G := Lib.hid (show isC x = true by unfold isC; simp [g1, g2])
                cases S with
                | true =>
                  go_wp2_with fail
                  go_roundw
                  case rel => exact ⟨k + 1, by go_num, by omega, by rw [HS.out, HA.out, G.out]; rfl, by rw [HS2.out]; rfl, trivial⟩
                  case measure => simp [intOf] <;> omega
                | false =>
                  by_cases g3 : x = 0
                  · have g4 : (x != 0) = false := by simp [g3]
                    have G2 := Lib.hid (show decide (x ≠ 0) = false by simp [g3])
                    clear g3
                    go_wp2_with fail
                    go_roundw
                    case rel => exact ⟨k + 1, by go_num, by omega, by rw [HS.out, HA.out, G.out]; rfl, by rw [HS2.out, G2.out]; rfl, trivial⟩
                    case measure => simp [intOf] <;> omega
                  · have g4 : (x != 0) = true := by simp [g3]
                    have G2 := Lib.hid (show decide (x ≠ 0) = true by simp [g3])
                    clear g3
                    go_wp2_with fail
                    go_roundw
                    case rel => exact ⟨k + 1, by go_num, by omega, by rw [HS.out, HA.out, G.out]; rfl, by rw [HS2.out, G2.out]; rfl, trivial⟩
                    case measure => simp [intOf] <;> omega
              · have G := Lib.hid (show l.all isC = false from all_false_of_take (k := k + 1) (by rw [HS.out, show isC x = false by unfold isC; simp [g2]] <;> simp))
                go_wp2_with fail
                go_ret
                exact ⟨ret_bool (by rw [G.out]; rfl), rfl⟩
            · have G := Lib.hid (show l.all isC = false from all_false_of_take (k := k + 1) (by rw [HS.out, show isC x = false by unfold isC; simp [g1]] <;> simp))
              go_wp2_with fail
              go_ret
              exact ⟨ret_bool (by rw [G.out]; rfl), rfl⟩
          · obtain rfl : k = l.length := by omega
            go_wp2_with fail
            go_ret
            refine ⟨ret_bool ?_, rfl⟩
            have hA := HA.out
            rw [List.take_length] at hA
            rw [hA]
            simp
      · rw [pre_3 h4, Bool.false_and, Bool.false_and]
        have h5 : ((l.length : Int) != dim) = true := by simp [h4]
        go_enter Try.func113, Try.ntmps113
        go_wp2_with fail
        go_ret
        exact ⟨rfl, rfl⟩
    · rw [pre_2 h2, Bool.false_and, Bool.false_and]
      go_enter Try.func113, Try.ntmps113
      go_wp2_with fail
      go_ret
      exact ⟨rfl, rfl⟩
  · rw [pre_1 h1, Bool.false_and, Bool.false_and]
    go_enter Try.func113, Try.ntmps113
    go_wp2_with fail
    go_ret
    exact ⟨rfl, rfl⟩
end Go.Proofs.Ytdbonlpkmncggaa

namespace Go.Proofs.Ytdbonlpkmncggaa
open Go.RowKit

/-- A node lies from (b, o) on. -/
def NodeAt (w : World) (b o : Nat) (n : NodeP) : Prop :=
  ∃ cv, Ints .i64 w cv n.coef ∧ w.cell? ⟨b, o, none⟩ = some cv ∧ w.cell? ⟨b, o + 1, none⟩ = some (.int .i64 n.at_) ∧ w.cell? ⟨b, o + 2, none⟩ = some (.int .i64 n.left) ∧
    w.cell? ⟨b, o + 3, none⟩ = some (.int .i64 n.right) ∧ w.cell? ⟨b, o + 4, none⟩ = some (.int .i64 n.size)

/-- v is a slice of nodes. -/
def NodesR (w : World) (v : Value) (l : List NodeP) : Prop :=
  ∃ a c, v = .slice a l.length c ∧ l.length ≤ c ∧ c ≤ 9223372036854775807 ∧ l.length ≤ 140737488351232 ∧
    ∀ (i : Nat) (n : NodeP), l[i]? = some n → ∃ b o, a = some ⟨b, o, none⟩ ∧ b < w.heap.size ∧ NodeAt w b (o + i * 5) n

/-- v is a tree. -/
def TreeR (w : World) (v : Value) (t : TreeP) : Prop := ∃ nv, v = .agg #[.int .i64 t.dim, nv] ∧ NodesR w nv t.nodes

/-- v is a node. -/
def NodeV (w : World) (v : Value) (n : NodeP) : Prop := ∃ cv, v = .agg #[cv, .int .i64 n.at_, .int .i64 n.left, .int .i64 n.right, .int .i64 n.size] ∧ Ints .i64 w cv n.coef

theorem NodeAt.below {w w' : World} {b o : Nat} {n : NodeP} (h : NodeAt w b o n) (hb : b < w.heap.size) (B : Below w.heap.size w w') : NodeAt w' b o n := by
  obtain ⟨cv, h0, h1, h2, h3, h4, h5⟩ := h
  exact ⟨cv, h0.below B, (B.cell (p := ⟨b, _, none⟩) hb).trans h1, (B.cell (p := ⟨b, _, none⟩) hb).trans h2, (B.cell (p := ⟨b, _, none⟩) hb).trans h3, (B.cell (p := ⟨b, _, none⟩) hb).trans h4, (B.cell (p := ⟨b, _, none⟩) hb).trans h5⟩

theorem NodesR.below {w w' : World} {v : Value} {l : List NodeP} (h : NodesR w v l) (B : Below w.heap.size w w') : NodesR w' v l := by
  obtain ⟨a, c, e, h1, h2, h3, h⟩ := h
  refine ⟨a, c, e, h1, h2, h3, fun i n hi => ?_⟩
  obtain ⟨b, o, e, hb, hn⟩ := h i n hi
  exact ⟨b, o, e, Nat.lt_of_lt_of_le hb B.size, hn.below hb B⟩

theorem TreeR.below {w w' : World} {v : Value} {t : TreeP} (h : TreeR w v t) (B : Below w.heap.size w w') : TreeR w' v t := by
  obtain ⟨nv, e, h⟩ := h
  exact ⟨nv, e, h.below B⟩

theorem NodeV.below {w w' : World} {v : Value} {n : NodeP} (h : NodeV w v n) (B : Below w.heap.size w w') : NodeV w' v n := by
  obtain ⟨cv, e, h⟩ := h
  exact ⟨cv, e, h.below B⟩

theorem NodeAt.val {w : World} {b o : Nat} {n : NodeP} (h : NodeAt w b o n) : ∃ ad cc, Ints .i64 w (.slice ad n.coef.length cc) n.coef ∧ w.cell? ⟨b, o, none⟩ = some (.slice ad n.coef.length cc) ∧ w.cell? ⟨b, o + 1, none⟩ = some (.int .i64 n.at_) ∧ w.cell? ⟨b, o + 2, none⟩ = some (.int .i64 n.left) ∧
    w.cell? ⟨b, o + 3, none⟩ = some (.int .i64 n.right) ∧ w.cell? ⟨b, o + 4, none⟩ = some (.int .i64 n.size) := by
  obtain ⟨cv, h0, h1, h2, h3, h4, h5⟩ := h
  obtain ⟨ad, cc, rfl⟩ := h0.shape
  exact ⟨ad, cc, h0, h1, h2, h3, h4, h5⟩

theorem TreeR.node {w : World} {d : Int} {b o n cc : Nat} {t : TreeP} (h : TreeR w (.agg #[.int .i64 d, .slice (some ⟨b, o, none⟩) n cc]) t) {i : Nat} {nd : NodeP} (hn : t.nodes[i]? = some nd) : b < w.heap.size ∧ NodeAt w b (o + i * 5) nd := by
  obtain ⟨nv, e, a, c, rfl, _, _, _, h⟩ := h
  injection e with e
  injection e with e
  simp at e
  obtain ⟨b', o', e', hb, hat⟩ := h i nd hn
  rw [← e.2.1] at e'
  injection e' with e'
  injection e' with e1 e2 e3
  subst e1 e2
  exact ⟨hb, hat⟩

theorem TreeR.addr {w : World} {d : Int} {ad : Option Addr} {n cc : Nat} {t : TreeP} (h : TreeR w (.agg #[.int .i64 d, .slice ad n cc]) t) {i : Nat} (hn : i < t.nodes.length) : ∃ b o, ad = some ⟨b, o, none⟩ := by
  obtain ⟨nv, e, a, c, rfl, _, _, _, h⟩ := h
  injection e with e
  injection e with e
  simp at e
  obtain ⟨nd, hnd⟩ := getElem?_ex hn
  obtain ⟨b', o', e', _⟩ := h i nd hnd
  exact ⟨b', o', e.2.1.trans e'⟩
end Go.Proofs.Ytdbonlpkmncggaa

namespace Go.Proofs.Ytdbonlpkmncggaa
open Go.RowKit

theorem cutB_is (c : List Int) (a dim : Int) : cutB c a dim = (decide (-137438953472 ≤ a) && decide (a ≤ 137438953472) && partsB c dim) := rfl

set_option maxHeartbeats 1000000 in
theorem cis_any (v : Value) (c : List Int) (a dim : Int) (w : World) (h : Ints .i64 w v c) :
    Calls Try.prog 93 #[.agg #[v, .int .i64 a], .int .i64 dim] w fun e w' => e = .returned (.bool (cutB c a dim)) ∧ Below w.heap.size w w' := by
  have HC := Lib.hid (fun W (hW : Ints .i64 W v c) => vparts_any v c dim W hW)
  have HI := Lib.hid h
  obtain ⟨ad, cc, rfl, _⟩ := h
  rw [cutB_is]
  obtain ⟨m, hm⟩ : ∃ m, c.length = m := ⟨_, rfl⟩
  rw [hm] at HC HI ⊢
  clear hm
  by_cases g1 : -137438953472 ≤ a
  · by_cases g2 : a ≤ 137438953472
    · rw [show (decide (-137438953472 ≤ a) && decide (a ≤ 137438953472) && partsB c dim) = partsB c dim by simp [g1, g2]]
      go_enter Try.func93, Try.ntmps93
      go_wp2_with fail
      refine (HC.out _ (HI.out.below (by (repeat (first | with_reducible exact Below.refl _ _ | with_reducible refine Bs ?_ | with_reducible refine Ba ?_ | with_reducible refine Bd ?_ | with_reducible refine Bn ?_))))).mono ?_
      rintro e w1 ⟨rfl, d, rfl⟩
      go_wp2_with fail
      go_ret
      exact ⟨rfl, by (repeat (first | with_reducible exact Below.refl _ _ | with_reducible refine Bs ?_ | with_reducible refine Ba ?_ | with_reducible refine Bd ?_ | with_reducible refine Bn ?_))⟩
    · rw [show (decide (-137438953472 ≤ a) && decide (a ≤ 137438953472) && partsB c dim) = false by simp [g2]]
      go_enter Try.func93, Try.ntmps93
      go_wp2_with fail
      go_ret
      exact ⟨rfl, by (repeat (first | with_reducible exact Below.refl _ _ | with_reducible refine Bs ?_ | with_reducible refine Ba ?_ | with_reducible refine Bd ?_ | with_reducible refine Bn ?_))⟩
  · rw [show (decide (-137438953472 ≤ a) && decide (a ≤ 137438953472) && partsB c dim) = false by simp [g1]]
    go_enter Try.func93, Try.ntmps93
    go_wp2_with fail
    go_ret
    exact ⟨rfl, by (repeat (first | with_reducible exact Below.refl _ _ | with_reducible refine Bs ?_ | with_reducible refine Ba ?_ | with_reducible refine Bd ?_ | with_reducible refine Bn ?_))⟩

set_option maxHeartbeats 1000000 in
theorem rcis_any (v : Value) (c : List Int) (a dim : Int) (w : World) (h : Ints .i64 w v c) :
    Calls Try.prog 96 #[.agg #[v, .int .i64 a], .int .i64 dim] w fun e w' => e = .returned (.bool (cutB c a dim)) ∧ Below w.heap.size w w' := by
  have HC := Lib.hid (fun W (hW : Ints .i64 W v c) => rparts_any v c dim W hW)
  have HI := Lib.hid h
  obtain ⟨ad, cc, rfl, _⟩ := h
  rw [cutB_is]
  obtain ⟨m, hm⟩ : ∃ m, c.length = m := ⟨_, rfl⟩
  rw [hm] at HC HI ⊢
  clear hm
  obtain ⟨B, hB⟩ : ∃ B, partsB c dim = B := ⟨_, rfl⟩
  rw [hB] at HC ⊢
  clear hB
  cases B with
  | true =>
    by_cases g1 : -137438953472 ≤ a
    · by_cases g2 : a ≤ 137438953472
      · rw [show (decide (-137438953472 ≤ a) && decide (a ≤ 137438953472) && true) = true by simp [g1, g2]]
        go_enter Try.func96, Try.ntmps96
        go_wp2_with fail
        refine (HC.out _ (HI.out.below (by (repeat (first | with_reducible exact Below.refl _ _ | with_reducible refine Bs ?_ | with_reducible refine Ba ?_ | with_reducible refine Bd ?_ | with_reducible refine Bn ?_))))).mono ?_
        rintro e w1 ⟨rfl, rfl⟩
        go_wp2_with fail
        go_ret
        exact ⟨rfl, by (repeat (first | with_reducible exact Below.refl _ _ | with_reducible refine Bs ?_ | with_reducible refine Ba ?_ | with_reducible refine Bd ?_ | with_reducible refine Bn ?_))⟩
      · rw [show (decide (-137438953472 ≤ a) && decide (a ≤ 137438953472) && true) = false by simp [g2]]
        have G := Lib.hid (show decide (a ≤ 137438953472) = false by simp [g2])
        go_enter Try.func96, Try.ntmps96
        go_wp2_with fail
        refine (HC.out _ (HI.out.below (by (repeat (first | with_reducible exact Below.refl _ _ | with_reducible refine Bs ?_ | with_reducible refine Ba ?_ | with_reducible refine Bd ?_ | with_reducible refine Bn ?_))))).mono ?_
        rintro e w1 ⟨rfl, rfl⟩
        go_wp2_with fail
        go_ret
        exact ⟨ret_bool G.out, by (repeat (first | with_reducible exact Below.refl _ _ | with_reducible refine Bs ?_ | with_reducible refine Ba ?_ | with_reducible refine Bd ?_ | with_reducible refine Bn ?_))⟩
    · rw [show (decide (-137438953472 ≤ a) && decide (a ≤ 137438953472) && true) = false by simp [g1]]
      go_enter Try.func96, Try.ntmps96
      go_wp2_with fail
      refine (HC.out _ (HI.out.below (by (repeat (first | with_reducible exact Below.refl _ _ | with_reducible refine Bs ?_ | with_reducible refine Ba ?_ | with_reducible refine Bd ?_ | with_reducible refine Bn ?_))))).mono ?_
      rintro e w1 ⟨rfl, rfl⟩
      go_wp2_with fail
      go_ret
      exact ⟨rfl, by (repeat (first | with_reducible exact Below.refl _ _ | with_reducible refine Bs ?_ | with_reducible refine Ba ?_ | with_reducible refine Bd ?_ | with_reducible refine Bn ?_))⟩
  | false =>
    rw [Bool.and_false]
    go_enter Try.func96, Try.ntmps96
    go_wp2_with fail
    refine (HC.out _ (HI.out.below (by (repeat (first | with_reducible exact Below.refl _ _ | with_reducible refine Bs ?_ | with_reducible refine Ba ?_ | with_reducible refine Bd ?_ | with_reducible refine Bn ?_))))).mono ?_
    rintro e w1 ⟨rfl, rfl⟩
    go_wp2_with fail
    go_ret
    exact ⟨rfl, by (repeat (first | with_reducible exact Below.refl _ _ | with_reducible refine Bs ?_ | with_reducible refine Ba ?_ | with_reducible refine Bd ?_ | with_reducible refine Bn ?_))⟩

theorem leafB_at {n : NodeP} : leafB n = (decide (n.left = 0) && decide (n.right = 0) && decide (n.coef.length = 0) && decide (n.at_ = 0) && decide (1 ≤ n.size)) := rfl

set_option maxHeartbeats 1000000 in
theorem tleaf_any (v : Value) (n : NodeP) (w : World) (h : NodeV w v n) :
    Calls Try.prog 92 #[v] w fun e w' => e = .returned (.bool (leafB n)) ∧ Below w.heap.size w w' := by
  obtain ⟨cv, rfl, ad, cc, rfl, _⟩ := h
  rw [leafB_at]
  obtain ⟨c, a, l, r, s⟩ := n
  dsimp only
  obtain ⟨m, hm⟩ : ∃ m, c.length = m := ⟨_, rfl⟩
  rw [hm]
  clear hm
  by_cases h1 : l = 0
  · subst h1
    by_cases h2 : r = 0
    · subst h2
      by_cases h3 : m = 0
      · subst h3
        by_cases h4 : a = 0
        · subst h4
          simp only [decide_true, Bool.true_and]
          go_enter Try.func92, Try.ntmps92
          go_wp2_with fail
          go_ret
          exact ⟨rfl, by (repeat (first | with_reducible exact Below.refl _ _ | with_reducible refine Bs ?_ | with_reducible refine Ba ?_ | with_reducible refine Bd ?_ | with_reducible refine Bn ?_))⟩
        · have e := Lib.hid (show decide (a = 0) = false by simp [h4])
          simp only [decide_true, Bool.true_and, e.out, Bool.false_and]
          have q : (a == 0) = false := by simp [h4]
          go_enter Try.func92, Try.ntmps92
          go_wp2_with fail
          go_ret
          exact ⟨rfl, by (repeat (first | with_reducible exact Below.refl _ _ | with_reducible refine Bs ?_ | with_reducible refine Ba ?_ | with_reducible refine Bd ?_ | with_reducible refine Bn ?_))⟩
      · have e := Lib.hid (show decide (m = 0) = false by simp [h3])
        simp only [decide_true, Bool.true_and, e.out, Bool.false_and]
        have q : ((m : Int) == 0) = false := by simp; omega
        go_enter Try.func92, Try.ntmps92
        go_wp2_with fail
        go_ret
        exact ⟨rfl, by (repeat (first | with_reducible exact Below.refl _ _ | with_reducible refine Bs ?_ | with_reducible refine Ba ?_ | with_reducible refine Bd ?_ | with_reducible refine Bn ?_))⟩
    · have e := Lib.hid (show decide (r = 0) = false by simp [h2])
      simp only [decide_true, Bool.true_and, e.out, Bool.false_and]
      have q : (r == 0) = false := by simp [h2]
      go_enter Try.func92, Try.ntmps92
      go_wp2_with fail
      go_ret
      exact ⟨rfl, by (repeat (first | with_reducible exact Below.refl _ _ | with_reducible refine Bs ?_ | with_reducible refine Ba ?_ | with_reducible refine Bd ?_ | with_reducible refine Bn ?_))⟩
  · have e := Lib.hid (show decide (l = 0) = false by simp [h1])
    simp only [e.out, Bool.false_and]
    have q : (l == 0) = false := by simp [h1]
    go_enter Try.func92, Try.ntmps92
    go_wp2_with fail
    go_ret
    exact ⟨rfl, by (repeat (first | with_reducible exact Below.refl _ _ | with_reducible refine Bs ?_ | with_reducible refine Ba ?_ | with_reducible refine Bd ?_ | with_reducible refine Bn ?_))⟩
end Go.Proofs.Ytdbonlpkmncggaa

namespace Go.Proofs.Ytdbonlpkmncggaa
open Go.RowKit

def clampI (v lo hi : Int) : Int := if v < lo then lo else if hi < v then hi else v

set_option maxHeartbeats 400000 in
theorem log_any (n : Int) (w : World) (hn : Ok64 n) :
    Calls Try.prog 94 #[.int .i64 n] w fun e w' => e = .returned (.int .i64 (Lib.bitLen (n.toNat - 1))) ∧ w = w' := by
  have h1 := hn.1
  have h2 := hn.2
  by_cases h : n ≤ 1
  · go_enter Try.func94, Try.ntmps94
    go_wp2
    go_ret
    refine ⟨ret_int ?_, rfl⟩
    rw [show n.toNat - 1 = 0 by omega]; rfl
  · have hl := fun W => Try.bits_Len64 (n - 1) W (by omega) (by omega)
    rw [show (n - 1).toNat = n.toNat - 1 by omega] at hl
    have HL := Lib.hid hl; clear hl
    go_enter Try.func94, Try.ntmps94
    go_wp2_with (go_at_call 95; refine (HL.out _).mono ?_; rintro e w' ⟨rfl, rfl⟩)
    go_ret
    exact ⟨rfl, rfl⟩
end Go.Proofs.Ytdbonlpkmncggaa

namespace Go.Proofs.Ytdbonlpkmncggaa
open Go.RowKit

theorem wpStill_of_quiet {P : Program} {ops : Array Oper} {W : World} {Q : Act → Prop} : ∀ (l : List Oper) (a : Act), wpQuiet P ops (fun w' => w' = W) Q l a → wpStill P ops W Q l a
  | [], _, h => h
  | o :: rest, a, h => by
    unfold wpQuiet at h
    unfold wpStill
    split
    · rename_i hw
      rw [if_pos hw] at h
      obtain ⟨v, hq, hn⟩ := h
      have hq := hq W rfl
      unfold Oper.quietAt at hq
      unfold Oper.still
      generalize (execOp a.eval o).run P W = r at hq
      cases r with
      | ok n w' =>
        cases n with
        | value u => obtain ⟨h1, h2⟩ := hq; subst h2; exact ⟨h1, wpStill_of_quiet rest _ hn⟩
        | skip => obtain ⟨h1, h2⟩ := hq; subst h2; exact ⟨h1, wpStill_of_quiet rest _ hn⟩
        | enter f args => obtain ⟨h1, h2⟩ := hq; exact ⟨h1, v, h2, wpStill_of_quiet rest _ hn⟩
        | _ => exact hq.elim
      | halt x w' => exact hq.elim
    · rename_i hw
      rw [if_neg hw] at h
      exact wpStill_of_quiet rest _ h

theorem wp_region_tail_quiet {P : Program} {id : Nat} {Q : Exit → Act → World → Prop} {a : Act} {w : World} {l : List Oper} (n : Nat) (hm : P.follows .mixedOrders = true) (hB : Region.lexTailB .any l.toArray n = true)
    (h : wpQuiet P l.toArray (fun w' => w' = w.drew) (fun a' => wpList P l.toArray Q (l.drop n) a' w.drew) (l.take n) a) : (Code.region id l.toArray true).wp P Q a w :=
  wp_region_still_tail n hm hB (wpStill_of_quiet _ _ h)

/-- The first n operations from k on come up one by one, forced. -/
def headB (md : Region.Mode) (ops : Array Oper) : Nat → Nat → Array Bool → Bool
  | 0, _, _ => true
  | n + 1, k, listed => decide (Region.ready md ops listed = [k]) && headB md ops n (k + 1) (listed.setIfInBounds k true)
def markB : Nat → Nat → Array Bool → Array Bool
  | 0, _, listed => listed
  | n + 1, k, listed => markB n (k + 1) (listed.setIfInBounds k true)

/-- What stands behind a forced head: a walk that only reads. -/
def QuietNext (P : Program) (ops : Array Oper) (Q : Exit → Act → World → Prop) (l : List Oper) : Exit → Act → World → Prop
  | .normal, a, w => wpQuiet P ops (fun w' => ∃ n, w' = w.drewN n) (fun a' => ∀ w', (∃ n, w' = w.drewN n) → Q .normal a' w') l a
  | e, a, w => Q e a w

theorem QuietNext.of {P : Program} {ops : Array Oper} {Q : Exit → Act → World → Prop} {l : List Oper} {a : Act} {w : World}
    (h : wpQuiet P ops (fun w' => ∃ n, w' = w.drewN n) (fun a' => ∀ w', (∃ n, w' = w.drewN n) → Q .normal a' w') l a) : QuietNext P ops Q l .normal a w := h

theorem wp_q {P : Program} {o : Oper} {a : Act} {w : World} {K : Act → World → Prop} {Q Q' : Exit → Act → World → Prop} (h : ∀ e a w, e ≠ .normal → Q e a w → Q' e a w) (hh : o.wp P a w K Q) : o.wp P a w K Q' := by
  unfold Oper.wp at *
  generalize (execOp a.eval o).run P w = r at *
  cases r with
  | ok n w' =>
    cases n <;> simp only [Oper.upon] at hh ⊢ <;>
      first
        | exact hh
        | exact Calls.mono hh (fun e w'' he => by
            cases e with
            | returned v => exact he
            | panicked c => exact h _ _ _ (by simp) he
            | outgrown => obtain ⟨a, w, g⟩ := he; exact ⟨a, w, h _ _ _ (by simp) g⟩)
  | halt x w' =>
    cases x <;> simp only [Oper.upon] at hh ⊢ <;> first | exact hh | exact h _ _ _ (by simp) hh

end Go.Proofs.Ytdbonlpkmncggaa

namespace Go.Proofs.Ytdbonlpkmncggaa
open Go.RowKit

def lowN : Nat → Nat
  | 0 => 0
  | k + 1 => lowN k + 1073741824 / (k + 1)

def brokN : Nat → Nat
  | 0 => 0
  | k + 1 => brokN k + if 1073741824 % (k + 1) = 0 then 0 else 1

def heldN (n : Int) : Nat := (clampI n 0 256).toNat

/-- Both ends of an average of so many points. -/
def loN (k : Nat) : Int := if k < 2 then 0 else 2 * (lowN (k - 1) : Int) - ((2147483648 * (k - 1) + k - 1) / k : Nat)
def hiN (k : Nat) : Int := if k < 2 then 0 else 2 * ((lowN (k - 1) : Int) + brokN (k - 1)) - (2147483648 * (k - 1) / k : Nat)
def normI (n : Int) : Int := (loN (heldN n) + hiN (heldN n)) / 2

end Go.Proofs.Ytdbonlpkmncggaa

namespace Go.Proofs.Ytdbonlpkmncggaa
open Go.RowKit

/-- How deep a node is, seen from one above. -/
def depT (t : TreeP) : Nat → Nat → Nat → Nat
  | 0, _, _ => 0
  | f + 1, i, j => if j = i then 0 else match t.nodes[i]? with
    | none => 0
    | some n => if (j : Int) < n.right then depT t f (i + 1) j + 1 else depT t f n.right.toNat j + 1

theorem depT_self (t : TreeP) (f i : Nat) : depT t f i i = 0 := by
  cases f with
  | zero => rfl
  | succ f => simp [depT]

theorem depT_left {t : TreeP} {f i j : Nat} {n : NodeP} (hn : t.nodes[i]? = some n) (hj : j ≠ i) (hr : (j : Int) < n.right) : depT t (f + 1) i j = depT t f (i + 1) j + 1 := by
  rw [depT, if_neg hj, hn]; simp [hr]
theorem depT_right {t : TreeP} {f i j : Nat} {n : NodeP} (hn : t.nodes[i]? = some n) (hj : j ≠ i) (hr : ¬ (j : Int) < n.right) : depT t (f + 1) i j = depT t f n.right.toNat j + 1 := by
  rw [depT, if_neg hj, hn]; simp [hr]

theorem Sub.dep {t : TreeP} {i e h : Nat} {s : Int} (q : Sub t i e h s) : ∀ f, h ≤ f → ∀ j, i ≤ j → j < e → depT t f i j = depT t h i j ∧ depT t h i j ≤ h := by
  induction q with
  | @leaf i n hn hl =>
    intro f hf j h1 h2
    obtain rfl : j = i := by omega
    rw [depT_self, depT_self]
    exact ⟨rfl, Nat.le_refl _⟩
  | @node i m e a b x y n hn hl hc q1 hr q2 hs ih1 ih2 =>
    intro f hf j h1 h2
    obtain ⟨f, rfl⟩ : ∃ g, f = g + 1 := ⟨f - 1, by omega⟩
    rw [Nat.add_comm 1 (max a b)]
    have l1 := q1.lt; have l2 := q2.lt
    rcases Nat.lt_or_ge i j with h3 | h3
    · by_cases h4 : j < m
      · rw [depT_left hn (by omega) (by omega), depT_left hn (by omega) (by omega)]
        have g1 := ih1 f (by omega) j (by omega) h4
        have g2 := ih1 (max a b) (by omega) j (by omega) h4
        omega
      · rw [depT_right hn (by omega) (by omega), depT_right hn (by omega) (by omega), show n.right.toNat = m by omega]
        have g1 := ih2 f (by omega) j (by omega) h2
        have g2 := ih2 (max a b) (by omega) j (by omega) h2
        omega
    · obtain rfl : j = i := by omega
      rw [depT_self, depT_self]
      exact ⟨rfl, by omega⟩

def depOf (t : TreeP) (i : Nat) : Nat := depT t 6 0 i
def sizeOf' (t : TreeP) (i : Nat) : Int := (t.nodes[i]?).elim 0 NodeP.size
def lenOf (t : TreeP) (i : Nat) : Int := (depOf t i : Int) * 1073741824 + normI (sizeOf' t i)
end Go.Proofs.Ytdbonlpkmncggaa

namespace Go.Proofs.Ytdbonlpkmncggaa
open Go.RowKit

set_option maxHeartbeats 400000 in
theorem same_any (va vb : Value) (la lb : List Int) (w : World) (ha : Ints .i64 w va la) (hb : Ints .i64 w vb lb) :
    Calls Try.prog 19 #[va, vb] w fun e w' => e = .returned (.bool (decide (la = lb))) ∧ ∃ n, w' = w.drewN n := by
  obtain ⟨a, c, rfl, _, _, h3, ha⟩ := ha
  obtain ⟨b, d, rfl, _, _, h3', hb⟩ := hb
  have HA := Lib.hid ha; clear ha
  have HB := Lib.hid hb; clear hb
  obtain ⟨m, hm⟩ : ∃ m, lb.length = m := ⟨_, rfl⟩
  rw [hm] at h3' ⊢
  have HM := Lib.hid hm; clear hm
  by_cases hl : la.length = m
  · obtain rfl := hl
    have hb : ((la.length : Int) != la.length) = false := by simp
    go_enter Try.func19, Try.ntmps19
    go_wp2
    go_loopw [5] (fun i wr => ∃ k : Nat, k ≤ la.length ∧ i = .int .i64 k ∧ (la.take k = lb.take k) ∧ ∃ n, wr = w.drewN n) (fun i _ => la.length - (intOf i).toNat)
    case atStart => exact ⟨0, Nat.zero_le _, rfl, rfl, 0, rfl⟩
    case round =>
      obtain ⟨k, hk, rfl, hpre, n, rfl⟩ := hrel
      have HP := Lib.hid hpre; clear hpre
      by_cases hlt : k < la.length
      · obtain ⟨x, hx⟩ := getElem?_ex hlt
        obtain ⟨y, hy⟩ := getElem?_ex (l := lb) (k := k) (by rw [HM.out]; exact hlt)
        obtain ⟨b1, o1, rfl, hb1, hc1⟩ := HA.out k x hx
        obtain ⟨b2, o2, rfl, hb2, hc2⟩ := HB.out k y hy
        have HX := Lib.hid hx; clear hx
        have HY := Lib.hid hy; clear hy
        go_wp2
        go_quiet (fail)
        go_wp2
        · go_ret
          have hne : (x != y) = true := by assumption
          refine ⟨ret_bool ?_, _, World.drewN_drewN _ _ _⟩
          symm; rw [decide_eq_false_iff_not]; rintro rfl
          have := HX.out.symm.trans HY.out
          simp_all
        · have hne : (x != y) = false := by assumption
          have : x = y := by simpa using hne
          subst this
          go_roundw
          case rel => exact ⟨k + 1, by omega, by go_num, take_step HX.out HY.out HP.out, _, rfl⟩
          case measure => simp [intOf] <;> omega
      · go_wp2
        go_ret
        refine ⟨ret_bool ?_, _, rfl⟩
        have hp := HP.out
        rw [List.take_of_length_le (by omega), List.take_of_length_le (by rw [HM.out]; omega)] at hp
        simp [hp]
  · have hb : ((la.length : Int) != m) = true := by simp; omega
    go_enter Try.func19, Try.ntmps19
    go_wp2
    go_ret
    refine ⟨ret_bool ?_, 0, rfl⟩
    symm; rw [decide_eq_false_iff_not]; rintro rfl
    exact hl HM.out
end Go.Proofs.Ytdbonlpkmncggaa

namespace Go.Proofs.Ytdbonlpkmncggaa
open Go.RowKit

/-- The cells of a block that is a plain row. -/
def RowAt (w : World) (g : Nat) (e : TypeId) (cur : Array Value) : Prop := w.heap[g]? = some (.cells cur e (0, 0))

theorem RowAt.lt {w : World} {g : Nat} {e : TypeId} {cur : Array Value} (h : RowAt w g e cur) : g < w.heap.size := (Array.getElem?_eq_some_iff.1 h).1

theorem RowAt.cell {w : World} {g : Nat} {e : TypeId} {cur : Array Value} (h : RowAt w g e cur) (o : Nat) : w.cell? ⟨g, o, none⟩ = cur[o]? := by
  unfold RowAt at h
  simp [World.cell?, h]

theorem RowAt.frozen {w : World} {g : Nat} {e : TypeId} {cur : Array Value} (h : RowAt w g e cur) (o : Nat) : w.frozen? ⟨g, o, none⟩ = false := by
  unfold RowAt at h
  simp [World.frozen?, h]

theorem RowAt.shape {w : World} {g : Nat} {e : TypeId} {cur : Array Value} (h : RowAt w g e cur) : w.shape? g = some (e, cur.size) := by
  unfold RowAt at h
  simp [World.shape?, h]

theorem RowAt.set {w : World} {g : Nat} {e : TypeId} {cur : Array Value} (h : RowAt w g e cur) (o : Nat) (v : Value) : RowAt (w.setCell ⟨g, o, none⟩ v) g e (cur.setIfInBounds o v) := by
  unfold RowAt at h ⊢
  simp [World.setCell, Array.getElem?_modify, h]

theorem own_rowAt {w : World} {base e size n : Nat} {g o cap : Nat} {s : Option _} {xs : List Value} (h : w.ownsRow base e size (.slice (some ⟨g, o, s⟩) n cap) n xs) :
    ∃ cur, o = 0 ∧ s = none ∧ base ≤ g ∧ RowAt w g e cur ∧ n ≤ cap ∧ cap ≤ maxLen ∧ cur.size = cap * size ∧ cur.toList.take (n * size) = xs := by
  rcases h.2 with ⟨h1, _⟩ | ⟨g', cap', cur, h1, h2, h3, h4, h5, h6, h7⟩
  · cases h1
  · injection h1 with h1 _ hc
    injection h1 with h1
    injection h1 with e1 e2 e3
    subst e1 e2 e3 hc
    exact ⟨cur, rfl, rfl, h2, h3, h4, h5, h6, h7⟩

theorem rowAt_own {w : World} {base e size n g cap : Nat} {cur : Array Value} {xs : List Value} (hb : base ≤ g) (h : RowAt w g e cur) (h1 : n ≤ cap) (h2 : cap ≤ maxLen) (h3 : cur.size = cap * size) (h4 : cur.toList.take (n * size) = xs) :
    w.ownsRow base e size (.slice (some ⟨g, 0, none⟩) n cap) n xs := by
  refine ⟨?_, .inr ⟨g, cap, cur, rfl, hb, h, h1, h2, h3, h4⟩⟩
  rw [← h4, List.length_take, Array.length_toList, h3]
  exact Nat.min_eq_left (Nat.mul_le_mul_right _ h1)
end Go.Proofs.Ytdbonlpkmncggaa

namespace Go.Proofs.Ytdbonlpkmncggaa
open Go.RowKit

theorem own_at {w w' : World} {base e size n : Nat} {v : Value} {xs : List Value} (h : w.ownsRow base e size v n xs) (hk : ∀ g, v.ownBlock = some g → w'.heap[g]? = w.heap[g]?) : w'.ownsRow base e size v n xs := by
  refine ⟨h.1, ?_⟩
  rcases h.2 with h1 | ⟨g, cap, cur, rfl, h2, h3, h4⟩
  · exact .inl h1
  · exact .inr ⟨g, cap, cur, rfl, h2, (hk g rfl).trans h3, h4⟩

/-- Only blocks of F have changed, or are new. -/
structure OnlyIn (F : List Nat) (w w' : World) : Prop where
  os : w'.os = w.os
  tape : w'.tape = w.tape
  output : w'.output = w.output
  size : w.heap.size ≤ w'.heap.size
  block : ∀ b, b < w.heap.size → b ∉ F → w'.heap[b]? = w.heap[b]?

theorem OnlyIn.refl (F : List Nat) (w : World) : OnlyIn F w w := ⟨rfl, rfl, rfl, Nat.le_refl _, fun _ _ _ => rfl⟩

theorem OnlyIn.trans {F F' : List Nat} {w w1 w2 : World} (h : OnlyIn F w w1) (k : OnlyIn F' w1 w2) (hF : ∀ b, b ∈ F' → b ∈ F ∨ w.heap.size ≤ b) : OnlyIn F w w2 :=
  ⟨k.os.trans h.os, k.tape.trans h.tape, k.output.trans h.output, Nat.le_trans h.size k.size, fun b hb hn =>
    (k.block b (Nat.lt_of_lt_of_le hb h.size) fun hbF => by rcases hF b hbF with h1 | h1; exact hn h1; omega).trans (h.block b hb hn)⟩

theorem OnlyIn.ofBelow {F : List Nat} {w w' : World} (h : Below w.heap.size w w') : OnlyIn F w w' := ⟨h.os, h.tape, h.output, h.size, fun b hb _ => h.block b hb⟩

theorem OnlyIn.set {F : List Nat} {w : World} (b o : Nat) (u : Value) (hb : b ∈ F) : OnlyIn F w (w.setCell ⟨b, o, none⟩ u) :=
  ⟨rfl, rfl, rfl, by simp, fun c _ hn => Below.heap_setCell _ _ _ _ (fun e => hn (by rw [e]; exact hb))⟩

theorem OnlyIn.below {F : List Nat} {w w' : World} {B : Nat} (h : OnlyIn F w w') (hF : ∀ b, b ∈ F → B ≤ b) (hB : B ≤ w.heap.size) : Below B w w' :=
  ⟨h.os, h.tape, h.output, h.size, fun b hb => h.block b (by omega) fun hbF => by have := hF b hbF; omega⟩

theorem OnlyIn.mono {F F' : List Nat} {w w' : World} (h : OnlyIn F w w') (hF : ∀ b, b ∈ F → b ∈ F') : OnlyIn F' w w' := ⟨h.os, h.tape, h.output, h.size, fun b hb hn => h.block b hb fun e => hn (hF b e)⟩

theorem own_prefix {w : World} {base e size n k : Nat} {g c : Nat} {xs : List Value} (h : w.ownsRow base e size (.slice (some ⟨g, 0, none⟩) n c) n xs) (hk : k ≤ n) : w.ownsRow base e size (.slice (some ⟨g, 0, none⟩) k c) k (xs.take (k * size)) := by
  obtain ⟨cur, _, _, h3, h4, h5, h6, h7, h8⟩ := own_rowAt h
  refine rowAt_own h3 h4 (by omega) h6 h7 ?_
  rw [← h8, List.take_take, Nat.min_eq_left (Nat.mul_le_mul_right _ hk)]

end Go.Proofs.Ytdbonlpkmncggaa

namespace Go.Proofs.Ytdbonlpkmncggaa
open Go.RowKit

/-- From the world a to the world m no block of a has changed. -/
def Since (a m : World) : Prop := Below a.heap.size a m

theorem Since.below {a m w : World} (h : Since a m) (k : Below m.heap.size m w) : Since a w := Bc h k h.size

theorem Since.own {a m w : World} (h : Since a m) (k : Below a.heap.size m w) : Since a w := Bc h k (Nat.le_refl _)

theorem lexTk {P : Program} {md : Region.Mode} {ops : Array Oper} {Q : Exit → Act → World → Prop} {S : World → Prop} (i : Nat) {oi : Oper} {v : Value} {fuel : Nat} {listed : Array Bool} {a : Act} {w : World} (hi : ops.toList[i]? = some oi)
    (hS : S w) (h : wpAnyH P md ops Q S fuel (listed.setIfInBounds i true) (a.put oi.dst v) w) (hB : (Region.noSelect ops && Region.free md ops listed i && (Region.ready md ops listed).contains i) = true) (hQ : ∀ c a w, Q (.panic c) (a.put oi.dst v) w → Q (.panic c) a w)
    (hw : Region.wanted oi (yielded ops a.tmps) = true) (hy : ∀ w, S w → (execOp a.eval oi).run P w = .ok (.value v) w) : wpAnyH P md ops Q S (fuel + 1) listed a w := by
  simp only [Bool.and_eq_true] at hB
  exact wpAnyH_take (by simpa using hi) hB.1.1 hB.1.2 hB.2 hQ (Or.inl ⟨hw, hy⟩) hS h

theorem lexSk {P : Program} {md : Region.Mode} {ops : Array Oper} {Q : Exit → Act → World → Prop} {S : World → Prop} (i : Nat) {oi : Oper} {fuel : Nat} {listed : Array Bool} {a : Act} {w : World} (hi : ops.toList[i]? = some oi)
    (hS : S w) (h : wpAnyH P md ops Q S fuel (listed.setIfInBounds i true) (a.put oi.dst undef) w) (hB : (Region.noSelect ops && Region.free md ops listed i && (Region.ready md ops listed).contains i) = true) (hQ : ∀ c a w, Q (.panic c) (a.put oi.dst undef) w → Q (.panic c) a w)
    (hw : Region.wanted oi (yielded ops a.tmps) = false) : wpAnyH P md ops Q S (fuel + 1) listed a w := by
  simp only [Bool.and_eq_true] at hB
  exact wpAnyH_take (by simpa using hi) hB.1.1 hB.1.2 hB.2 hQ (Or.inr ⟨hw, rfl⟩) hS h

theorem lexHv {P : Program} {md : Region.Mode} {ops : Array Oper} {Q : Exit → Act → World → Prop} {S : World → Prop} (i : Nat) {o : Oper} {fuel : Nat} {listed : Array Bool} {a : Act} {w : World} (hi : ops.toList[i]? = some o)
    (h : ∀ K' : Act → World → Prop, Shut (∀ a w, S w → (S w → wpAnyH P md ops Q S fuel (listed.setIfInBounds i true) a w) → K' a w) → if Region.wanted o (yielded ops a.tmps) = true then Oper.wp P o a w K' Q else K' (a.put o.dst undef) w)
    (hr : Region.ready md ops listed = [i]) : wpAnyH P md ops Q S (fuel + 1) listed a w :=
  wpAnyH_ready hr (by simp) (AllReadyH.cons (by simpa using hi) h AllReadyH.nil)

theorem lexHv2 {P : Program} {md : Region.Mode} {ops : Array Oper} {Q : Exit → Act → World → Prop} {S : World → Prop} (i j : Nat) {o o' : Oper} {fuel : Nat} {listed : Array Bool} {a : Act} {w : World} (hi : ops.toList[i]? = some o) (hj : ops.toList[j]? = some o')
    (h : ∀ K' : Act → World → Prop, Shut (∀ a w, S w → (S w → wpAnyH P md ops Q S fuel (listed.setIfInBounds i true) a w) → K' a w) → if Region.wanted o (yielded ops a.tmps) = true then Oper.wp P o a w K' Q else K' (a.put o.dst undef) w)
    (h' : ∀ K' : Act → World → Prop, Shut (∀ a w, S w → (S w → wpAnyH P md ops Q S fuel (listed.setIfInBounds j true) a w) → K' a w) → if Region.wanted o' (yielded ops a.tmps) = true then Oper.wp P o' a w K' Q else K' (a.put o'.dst undef) w)
    (hr : Region.ready md ops listed = [i, j]) : wpAnyH P md ops Q S (fuel + 1) listed a w :=
  wpAnyH_ready hr (by simp) (AllReadyH.cons (by simpa using hi) h (AllReadyH.cons (by simpa using hj) h' AllReadyH.nil))
end Go.Proofs.Ytdbonlpkmncggaa

namespace Go.Proofs.Ytdbonlpkmncggaa
open Go.RowKit

def intF (l : List Int) : List Value := l.map (Value.int .i64)

theorem intF_len (l : List Int) : (intF l).length = l.length := by simp [intF]

theorem intF_append (a b : List Int) : intF (a ++ b) = intF a ++ intF b := by simp [intF]

theorem intF_one {l : List Int} {u : Value} (h : u ∈ intF l) : u.oneCell' = true := by
  obtain ⟨x, _, rfl⟩ := List.mem_map.1 h
  rfl

/-- A row's block is as it was, or new. -/
def NewB (W : World) (v v' : Value) : Prop := v'.ownBlock = v.ownBlock ∨ ∃ b, v'.ownBlock = some b ∧ W.heap.size ≤ b

set_option maxRecDepth 100000 in
theorem run_appI (base : Nat) (v : Value) (l l2 : List Int) (W : World) (vx : Value) (hown : W.ownsRow base 3 1 v l.length (intF l)) (hl : Ints .i64 W vx l2) (hb : l.length + l2.length ≤ 1000000) (hbase : base ≤ W.heap.size) (ty : TypeId) :
    ∃ v' w', (Builtin.append_ #[27, 27] ty #[v, vx]).run Try.prog W = .ok v' w' ∧ w'.ownsRow base 3 1 v' (l ++ l2).length (intF (l ++ l2)) ∧ W.grownBy w' v.ownBlock ∧ NewB W v v' := by
  obtain ⟨i, hi, hz, hsize, hby, hzs, hsz, _⟩ := eiInt
  obtain ⟨ad, c, rfl, g1, g2, g3, h4⟩ := hl
  rcases ad with _ | ad
  · have hl0 : l2 = [] := by
      cases l2 with
      | nil => rfl
      | cons x l2 => obtain ⟨b, o, e, _⟩ := h4 0 x rfl; cases e
    subst hl0
    have hrun : (Builtin.append_ #[27, 27] ty #[v, .slice none 0 c]).run Try.prog W = .ok v W := by
      rcases hown.2 with ⟨rfl, h0⟩ | ⟨g, cap, cur, rfl, _, _, hnc, _⟩
      · simp [Builtin.append_, run_underlying Try.underlying27, sizeOf, typeInfo, hi, Builtin.lenOf, Builtin.firstCells]
      · simp [Builtin.append_, run_underlying Try.underlying27, sizeOf, typeInfo, hi, Builtin.lenOf, Builtin.firstCells, hnc, storeCells]
    exact ⟨v, W, hrun, by simpa using hown, ⟨rfl, rfl, rfl, Nat.le_refl _, fun _ _ _ => rfl⟩, .inl rfl⟩
  · obtain ⟨v', w', hrun, h2, h3, _, h5⟩ := run_append_own_at (P := Try.prog) W base 27 ty 3 i _ 1 8 Try.underlying27 hi hz hsize hby hzs hsz v l.length (intF l) hown ad l2.length c (intF l2) (by rw [intF_len, Nat.mul_one]) (by
      intro j u hu
      rw [intF, List.getElem?_map] at hu
      cases hy : l2[j]? with
      | none => rw [hy] at hu; cases hu
      | some y =>
        rw [hy] at hu
        obtain ⟨b, o, e, _, hc⟩ := h4 j y hy
        injection e with e
        subst e
        rw [Addr.add_lit, hc]
        simpa using hu) (fun u hu => intF_one hu) (by unfold maxLen; omega) (by omega) hbase
    refine ⟨v', w', hrun, ?_, h3, ?_⟩
    · rw [List.length_append, intF_append]
      exact h2
    · rcases h5 with h | h
      · exact .inl h
      · exact .inr ⟨_, h, Nat.le_refl _⟩

/-- Append of a list of integers. -/
theorem appI {ops : Array Oper} {rest : List Oper} {o : Oper} {a : Act} {Q : Exit → Act → World → Prop} (hgd : o.guard = none) (s x : Operand)
    (ho : o.op = .call { callee := .builtin .append, args := #[s, x], argTypes := #[27, 27] })
    (base : Nat) {v : Value} {l l2 : List Int} {W : World} {vx : Value} (hs : a.eval s = v) (hown : W.ownsRow base 3 1 v l.length (intF l)) (hx : a.eval x = vx) (hl : Ints .i64 W vx l2) (hb : l.length + l2.length ≤ 1000000) (hbase : base ≤ W.heap.size)
    (h : ∀ v' w', w'.ownsRow base 3 1 v' (l ++ l2).length (intF (l ++ l2)) → W.grownBy w' v.ownBlock → NewB W v v' → wpList Try.prog ops Q rest (a.put o.dst v') w') : wpList Try.prog ops Q (o :: rest) a W := by
  obtain ⟨v', w', hrun, h2, h3, h4⟩ := run_appI base v l l2 W vx hown hl hb hbase o.type
  refine wpList_plain hgd fun K hK => ?_
  unfold Oper.wp execOp
  simp only [ho, resolve, invoke, builtin, Sem.run_bind, Sem.run_pure, Result.andThen_ok, List.map_toArray, List.map_cons, List.map_nil, hs, hx, hrun]
  exact hK _ _ (h v' w' h2 h3 h4)

/-- The same, at a step of a region that draws its order. -/
theorem appI_step {ops : Array Oper} {o : Oper} {a : Act} {K : Act → World → Prop} {Q : Exit → Act → World → Prop} {E : Prop} (hgd : o.guard = none) (s x : Operand)
    (ho : o.op = .call { callee := .builtin .append, args := #[s, x], argTypes := #[27, 27] })
    (base : Nat) {v : Value} {l l2 : List Int} {W : World} {vx : Value} (hs : a.eval s = v) (hown : W.ownsRow base 3 1 v l.length (intF l)) (hx : a.eval x = vx) (hl : Ints .i64 W vx l2) (hb : l.length + l2.length ≤ 1000000) (hbase : base ≤ W.heap.size)
    (h : ∀ v' w', w'.ownsRow base 3 1 v' (l ++ l2).length (intF (l ++ l2)) → W.grownBy w' v.ownBlock → NewB W v v' → K (a.put o.dst v') w') : if Region.wanted o (yielded ops a.tmps) = true then o.wp Try.prog a W K Q else E := by
  have hw : Region.wanted o (yielded ops a.tmps) = true := by unfold Region.wanted; rw [hgd]
  rw [if_pos hw]
  obtain ⟨v', w', hrun, h2, h3, h4⟩ := run_appI base v l l2 W vx hown hl hb hbase o.type
  unfold Oper.wp execOp
  simp only [ho, resolve, invoke, builtin, Sem.run_bind, Sem.run_pure, Result.andThen_ok, List.map_toArray, List.map_cons, List.map_nil, hs, hx, hrun]
  exact h v' w' h2 h3 h4

theorem own_shape {w : World} {base e size n : Nat} {v : Value} {xs : List Value} (h : w.ownsRow base e size v n xs) : ∃ a m c, v = .slice a m c := by
  rcases h.2 with ⟨rfl, _⟩ | ⟨g, cap, _, rfl, _⟩
  · exact ⟨_, _, _, rfl⟩
  · exact ⟨_, _, _, rfl⟩

theorem gcell {W w' : World} {r : Option Nat} (g : W.grownBy w' r) {b o : Nat} (hb : b < W.heap.size) (hne : r ≠ some b) : w'.cell? ⟨b, o, none⟩ = W.cell? ⟨b, o, none⟩ := World.cell?_of_block (a := ⟨b, o, none⟩) (g.block b hb fun e => hne e.symm)

theorem gfroz {W w' : World} {r : Option Nat} (g : W.grownBy w' r) {b o : Nat} (hb : b < W.heap.size) (hne : r ≠ some b) : w'.frozen? ⟨b, o, none⟩ = W.frozen? ⟨b, o, none⟩ := World.frozen?_of_block (a := ⟨b, o, none⟩) (g.block b hb fun e => hne e.symm)

theorem row_new {W : World} {b : Nat} {T : TypeId} {cs : Array Value} (hb : b = W.heap.size) : RowAt (W.alloc (.cells cs T)) b T cs := by
  subst hb
  exact heap_alloc_new W _

theorem eiNode : EI Try.prog 85 (.agg #[.slice none 0 0, .int .i64 0, .int .i64 0, .int .i64 0, .int .i64 0]) 5 56 := .of (by kernel_rfl) rfl (by decide) (by decide)

/-- Append of one element onto a row of the call's own; where the new row lies. -/
theorem app1N {P : Program} {ops : Array Oper} {rest : List Oper} {o : Oper} {a : Act} {Q : Exit → Act → World → Prop} (hgd : o.guard = none) (s x : Operand) (t : TypeId)
    (ho : o.op = .call { callee := .builtin .append, args := #[s, x], argTypes := #[t, t] })
    {e : TypeId} {z : Value} {size bytes : Nat} (ht : P.underlying t = some (.slice e)) (hE : EI P e z size bytes)
    (base : Nat) {v : Value} {n : Nat} {xs : List Value} {W : World} {cs : Array Value} {T : TypeId} {C : Nat} (hs : a.eval s = v) (hown : W.ownsRow base e size v n xs)
    {b : Nat} (hx : a.eval x = .slice (some ⟨b, 0, none⟩) 1 C) (hbk : b = W.heap.size) (hcs : cs.size = size) (h1 : ∀ u ∈ cs.toList, u.oneCell' = true)
    (hbytes : (n + 1) * bytes ≤ 140737488355328) (hbase : base ≤ W.heap.size)
    (h : ∀ v' w', w'.ownsRow base e size v' (n + 1) (xs ++ cs.toList) → W.grownBy w' v.ownBlock → NewB W v v' → wpList P ops Q rest (a.put o.dst v') w') :
    wpList P ops Q (o :: rest) a (W.alloc (.cells cs T)) := by
  subst hbk
  obtain ⟨i, hi, hz, hsize, hby, hzs, hsz, hbp⟩ := hE
  have h63 : n + 1 ≤ 140737488355328 := Nat.le_trans (Nat.le_mul_of_pos_right _ hbp) hbytes
  refine wpList_append_own_at _ hgd s x t ho base e i z size bytes ht hi hz hsize hby hzs hsz v n xs hs (hown.alloc _) ⟨W.heap.size, 0, none⟩ 1 C cs.toList hx (by simp [hcs]) ?_ h1 (by unfold maxLen; omega) hbytes (by simp; omega) ?_
  · intro j u hu
    have hadd : (⟨W.heap.size, 0, none⟩ : Addr).add j = ⟨W.heap.size, j, none⟩ := by unfold Addr.add; split <;> simp_all
    rw [hadd]
    have hb := heap_alloc_new W (.cells cs T)
    simp only [World.cell?, hb]
    simpa using hu
  · intro v' w' hown' hg _ h5
    refine h v' w' hown' ?_ ?_
    · exact ⟨hg.os, hg.tape, hg.output, by have := hg.size; simp at this; omega, fun k hk hn => (hg.block k (by simp; omega) hn).trans ((Ba (B := W.heap.size) (Below.refl _ W)).block k hk)⟩
    · rcases h5 with h | h
      · exact .inl h
      · exact .inr ⟨_, h, by simp⟩

def rowN (p : NodeP × Value) : List Value := [p.2, .int .i64 p.1.at_, .int .i64 p.1.left, .int .i64 p.1.right, .int .i64 p.1.size]

theorem rowN_at : ∀ (ps : List (NodeP × Value)) (i : Nat) (p : NodeP × Value), ps[i]? = some p → (ps.flatMap rowN)[i * 5]? = some p.2 ∧ (ps.flatMap rowN)[i * 5 + 1]? = some (.int .i64 p.1.at_) ∧ (ps.flatMap rowN)[i * 5 + 2]? = some (.int .i64 p.1.left) ∧ (ps.flatMap rowN)[i * 5 + 3]? = some (.int .i64 p.1.right) ∧ (ps.flatMap rowN)[i * 5 + 4]? = some (.int .i64 p.1.size)
  | [], i, p, h => by simp at h
  | q :: ps, 0, p, h => by
    obtain rfl : q = p := by simpa using h
    exact ⟨rfl, rfl, rfl, rfl, rfl⟩
  | q :: ps, i + 1, p, h => by
    have := rowN_at ps i p (by simpa using h)
    rw [List.flatMap_cons]
    have e1 : (i + 1) * 5 = i * 5 + 1 + 1 + 1 + 1 + 1 := by omega
    rw [e1]
    exact this

theorem own_nodes {w : World} {base e n : Nat} {v : Value} {ps : List (NodeP × Value)} (h : w.ownsRow base e 5 v n (ps.flatMap rowN)) (hn : n = ps.length) (hs : n ≤ 100000)
    (hp : ∀ p ∈ ps, Ints .i64 w p.2 p.1.coef) : NodesR w v (ps.map (·.1)) := by
  subst hn
  rcases h.2 with ⟨rfl, h0⟩ | ⟨g, cap, cur, rfl, hb, hg, h1, h2, h3, h4⟩
  · have : ps = [] := List.eq_nil_of_length_eq_zero h0
    subst this
    exact ⟨none, 0, rfl, by simp, by omega, by simp, fun i x hi => by simp at hi⟩
  · refine ⟨some ⟨g, 0, none⟩, cap, by rw [List.length_map], by rw [List.length_map]; exact h1, by simpa [maxLen] using h2, by rw [List.length_map]; omega, fun i t hi => ?_⟩
    rw [List.getElem?_map] at hi
    cases hpi : ps[i]? with
    | none => rw [hpi] at hi; cases hi
    | some p =>
      rw [hpi] at hi
      obtain rfl : p.1 = t := by simpa using hi
      have hlt : i < ps.length := (List.getElem?_eq_some_iff.1 hpi).1
      obtain ⟨r0, r1, r2, r3, r4⟩ := rowN_at ps i p hpi
      have c0 := (h.cellAt (i * 5) (by omega)).trans r0
      have c1 := (h.cellAt (i * 5 + 1) (by omega)).trans r1
      have c2 := (h.cellAt (i * 5 + 2) (by omega)).trans r2
      have c3 := (h.cellAt (i * 5 + 3) (by omega)).trans r3
      have c4 := (h.cellAt (i * 5 + 4) (by omega)).trans r4
      exact ⟨g, 0, rfl, (Array.getElem?_eq_some_iff.1 hg).1, p.2, hp p (List.mem_of_getElem? hpi), by rw [Nat.zero_add]; exact c0, by rw [Nat.zero_add]; exact c1, by rw [Nat.zero_add]; exact c2, by rw [Nat.zero_add]; exact c3, by rw [Nat.zero_add]; exact c4⟩

def AtB (v : Value) (g : Nat) : Prop := ∃ o n c, v = .slice (some ⟨g, o, none⟩) n c

theorem own_some2 {w : World} {base e size n : Nat} {v : Value} {xs : List Value} (h : w.ownsRow base e size v n xs) (h0 : 1 ≤ n) : ∃ g c, v = .slice (some ⟨g, 0, none⟩) n c ∧ base ≤ g ∧ g < w.heap.size := by
  rcases h.2 with ⟨_, e⟩ | ⟨g, cap, cur, rfl, hb, hrow, _⟩
  · omega
  · exact ⟨g, cap, rfl, hb, (Array.getElem?_eq_some_iff.1 hrow).1⟩

end Go.Proofs.Ytdbonlpkmncggaa

namespace Go.Proofs.Ytdbonlpkmncggaa
open Go.RowKit

end Go.Proofs.Ytdbonlpkmncggaa

namespace Go.Proofs.Ytdbonlpkmncggaa
open Go.RowKit

theorem RdTo.refl {w : World} {R : Nat} {v : Value} {l : List Int} {a : Nat} {e : Int} (h : Rd w R v l a e) : RdTo w R v l w a e := ⟨h, only_refl _ _⟩

theorem readN_all {w : World} {R : Nat} {v : Value} {l : List Int} {a : Nat} {e0 : Int} (h : Rd w R v l a e0) (hb : AllB l) (ha : a ≤ l.length) (hl : l.length ≤ 100000) (most : Int) (hm : Ok64 most) :
    Calls Try.prog 72 #[.pointer (some ⟨R, 0, none⟩), .int .i64 most] w fun e w' => e = .returned (.int .i64 (rdN' l a e0 most).1) ∧ RdTo w R v l w' (rdN' l a e0 most).2.1 (rdN' l a e0 most).2.2 := by
  by_cases he : e0 = 0
  · subst he; rw [rdN', if_pos rfl]; exact readN_any h hb ha hl most hm
  · rw [rdN', if_neg he]; exact (readN_dead h he most).mono fun e w' ⟨h1, h2⟩ => ⟨h1, h2 ▸ RdTo.refl h⟩

theorem readI_all {w : World} {R : Nat} {v : Value} {l : List Int} {a : Nat} {e0 : Int} (h : Rd w R v l a e0) (hb : AllB l) (ha : a ≤ l.length) (hl : l.length ≤ 100000) :
    Calls Try.prog 100 #[.pointer (some ⟨R, 0, none⟩)] w fun e w' => e = .returned (.int .i64 (rdI' l a e0).1) ∧ RdTo w R v l w' (rdI' l a e0).2.1 (rdI' l a e0).2.2 := by
  by_cases he : e0 = 0
  · subst he; rw [rdI', if_pos rfl]; exact readI_any h hb ha hl
  · rw [rdI', if_neg he]; exact (readI_dead h he).mono fun e w' ⟨h1, h2⟩ => ⟨h1, h2 ▸ RdTo.refl h⟩

theorem RdTo.from {w w1 w2 : World} {R : Nat} {v : Value} {l : List Int} {a : Nat} {e : Int} (hb : Below w.heap.size w w1) (h : RdTo w1 R v l w2 a e) : RdTo w R v l w2 a e :=
  ⟨h.1, only_trans (only_below hb) h.2⟩

end Go.Proofs.Ytdbonlpkmncggaa

namespace Go.Proofs.Ytdbonlpkmncggaa
open Go.RowKit

theorem own_set {w : World} {base e size n : Nat} {v : Value} {xs : List Value} {A : Addr} {u : Value} (h : w.ownsRow base e size v n xs) (hA : A.block < base) : (w.setCell A u).ownsRow base e size v n xs :=
  own_keep h fun g hg _ => Below.heap_setCell _ _ _ _ (by omega)

theorem own_drew {w : World} {base e size n : Nat} {v : Value} {xs : List Value} (h : w.ownsRow base e size v n xs) : w.drew.ownsRow base e size v n xs := h

/-- The block of a slice lies between two bounds. -/
def Betw (B U : Nat) (v : Value) : Prop := ∀ b o n c, v = .slice (some ⟨b, o, none⟩) n c → B ≤ b ∧ b < U

theorem Betw.own {w : World} {base e size n : Nat} {v : Value} {xs : List Value} (h : w.ownsRow base e size v n xs) : Betw base w.heap.size v := fun b o n' c' hv => by
  have hlt := h.lt
  subst hv
  rcases h.2 with ⟨h1, _⟩ | ⟨g, cap, cur, h1, _⟩
  · cases h1
  · injection h1 with h1 h2 h3
    injection h1 with h1
    injection h1 with h1 h2
    subst h1
    exact hlt b (by subst h2 h3; rfl)

section
variable {P : Program} {ops : Array Oper} {Q : Exit → Act → World → Prop} {md : Region.Mode} {T : World → Prop} {k : Nat}

/-- Whatever order is picked from here on; T holds behind every operation ahead of the barrier k. -/
def wpAnyB (P : Program) (md : Region.Mode) (ops : Array Oper) (Q : Exit → Act → World → Prop) (T : World → Prop) (k : Nat) : Nat → Array Bool → Act → World → Prop
  | 0, listed, a, w => Region.ready md ops listed = [] ∧ Q .normal a w
  | fuel + 1, listed, a, w =>
    (Region.ready md ops listed = [] → Q .normal a w) ∧
    ∀ i ∈ Region.ready md ops listed, wpOp P ops Q i (fun a' w' => ((listed.setIfInBounds i true).getD k true = false → T w') ∧ wpAnyB P md ops Q T k fuel (listed.setIfInBounds i true) a' w') a w

theorem wpAny_of_B : ∀ (fuel : Nat) (listed : Array Bool) (a : Act) (w : World), wpAnyB P md ops Q T k fuel listed a w → wpAny P md ops Q fuel listed a w
  | 0, _, _, _, h => h
  | fuel + 1, _, _, _, h => ⟨h.1, fun i hi => wpOp_mono (fun a' w' h' => wpAny_of_B fuel _ a' w' h'.2) (h.2 i hi)⟩

theorem wpAnyB_first {i : Nat} {oi : Oper} {v : Value} {R : Array Bool} (hi : ops[i]? = some oi) (hsel : ∀ (j : Nat) (o : Oper) cs b, ops[j]? = some o → o.op ≠ .select cs b)
    (hQ : ∀ c a w, Q (.panic c) (a.put oi.dst v) w → Q (.panic c) a w) (hRs : R.size = ops.size) (hcl : ∀ j ∈ Region.ready md ops R, j = i) (hRk : R.getD k true = false) (hik : i ≠ k) :
    ∀ (fuel : Nat) (listed : Array Bool) (a : Act) (w : World),
      (∀ j oj, ops[j]? = some oj → j ≠ i → listed.getD j true = false → (∀ e ∈ oj.after, Region.binds md e = true → e.on ≠ i) → oi.apart ops oj = true) →
      (∀ x, listed.getD x false = true → R.getD x false = true) → listed.getD k true = false →
      i ∈ Region.ready md ops listed → YieldsIf P ops T oi v a → T w →
      wpAnyB P md ops Q T k fuel (listed.setIfInBounds i true) (a.put oi.dst v) w → wpAnyB P md ops Q T k (fuel + 1) listed a w := by
  have hjR : ∀ (listed : Array Bool) (j : Nat), (∀ x, listed.getD x false = true → R.getD x false = true) → j ∈ Region.ready md ops listed → j ≠ i → R.getD j false = true ∧ j ≠ k := by
    intro listed j hsub hj hji
    obtain ⟨_, oj, hoj, hall⟩ := mem_ready.1 hj
    have hlt : j < R.size := by rw [hRs]; exact (Array.getElem?_eq_some_iff.1 hoj).1
    have h1 : R.getD j true = true := by
      cases hb : R.getD j true with
      | true => rfl
      | false => exact absurd (hcl j (mem_ready.2 ⟨hb, oj, hoj, fun e he hbd => hsub _ (hall e he hbd)⟩)) hji
    refine ⟨?_, fun e => ?_⟩
    · simpa [Array.getD, hlt] using h1
    · subst e
      rw [h1] at hRk
      cases hRk
  intro fuel
  induction fuel with
  | zero =>
    intro listed a w _ hsub hk hr hy hS H
    refine ⟨fun h => (by rw [h] at hr; cases hr), fun j hj => ?_⟩
    by_cases hji : j = i
    · subst hji; exact hy.wpOp hi hS ⟨fun _ => hS, H⟩
    · have := ready_mono hj hji
      rw [H.1] at this
      cases this
  | succ fuel ih =>
    intro listed a w hfree hsub hk hr hy hS H
    refine ⟨fun h => (by rw [h] at hr; cases hr), fun j hj => ?_⟩
    by_cases hji : j = i
    · subst hji; exact hy.wpOp hi hS ⟨fun _ => hS, H⟩
    · have h1 := H.2 j (ready_mono hj hji)
      obtain ⟨hjun, oj, hoj, hall⟩ := mem_ready.1 hj
      have hnot : ∀ e ∈ oj.after, Region.binds md e = true → e.on ≠ i := fun e he hb heq => by
        have h1 := hall e he hb
        have h0 := (mem_ready.1 hr).1
        rw [heq] at h1
        rcases Nat.lt_or_ge i listed.size with h' | h'
        · simp [h'] at h0 h1; rw [h0] at h1; cases h1
        · simp [Array.getElem?_eq_none h'] at h1
      have h2 := wpOp_putIf hoj (hfree j oj hoj hji hjun hnot) (fun cs b => hsel i oi cs b hi) (fun cs b => hsel j oj cs b hoj) hQ hy h1
      obtain ⟨hRj, hjk⟩ := hjR listed j hsub hj hji
      have hfree' : ∀ k ok, ops[k]? = some ok → k ≠ i → (listed.setIfInBounds j true).getD k true = false →
          (∀ e ∈ ok.after, Region.binds md e = true → e.on ≠ i) → oi.apart ops ok = true := fun k ok hk hki hun hno => by
        refine hfree k ok hk hki ?_ hno
        by_cases hjk : j = k
        · subst hjk; exact hjun
        · rw [getD_set_ne true hjk] at hun; exact hun
      have hk2 : (listed.setIfInBounds j true).getD k true = false := by rw [getD_set_ne true hjk]; exact hk
      have hsub2 : ∀ x, (listed.setIfInBounds j true).getD x false = true → R.getD x false = true := fun x hx => by
        by_cases hxj : j = x
        · subst hxj; exact hRj
        · rw [getD_set_ne false hxj] at hx; exact hsub x hx
      have hk3 : ((listed.setIfInBounds i true).setIfInBounds j true).getD k true = false := by rw [getD_set_ne true hjk, getD_set_ne true hik]; exact hk
      refine wpOp_mono (fun a' w' h3 => ⟨fun _ => h3.2.1 hk3, ih (listed.setIfInBounds j true) a' w' hfree' hsub2 hk2 (ready_mono hr (Ne.symm hji)) h3.1 (h3.2.1 hk3) ?_⟩) h2
      rw [Array.setIfInBounds_comm _ _ hji]
      exact h3.2.2

/-- May i be taken first, ahead of the barrier k? R: all that may come up without i. -/
def takeB (md : Region.Mode) (ops : Array Oper) (listed R : Array Bool) (i k : Nat) : Bool :=
  Region.noSelect ops && Region.free md ops listed i && (Region.ready md ops listed).contains i && R.size == ops.size && (Region.ready md ops R).all (fun j => j == i) && !R.getD k true && i != k && !listed.getD k true
    && listed.size == ops.size && (List.range ops.size).all fun x => !listed.getD x false || R.getD x false

theorem takeB_spec {listed R : Array Bool} {i : Nat} (h : takeB md ops listed R i k = true) : Region.noSelect ops = true ∧ Region.free md ops listed i = true ∧ (Region.ready md ops listed).contains i = true ∧ R.size = ops.size ∧
    (∀ j ∈ Region.ready md ops R, j = i) ∧ R.getD k true = false ∧ i ≠ k ∧ listed.getD k true = false ∧ (∀ x, listed.getD x false = true → R.getD x false = true) := by
  unfold takeB at h
  simp only [Bool.and_eq_true, Bool.not_eq_true', List.all_eq_true, beq_iff_eq, bne_iff_ne, ne_eq] at h
  obtain ⟨⟨⟨⟨⟨⟨⟨⟨⟨h1, h2⟩, h3⟩, h4⟩, h5⟩, h6⟩, h7⟩, h8⟩, h9⟩, h10⟩ := h
  refine ⟨h1, h2, h3, h4, h5, h6, h7, h8, fun x hx => ?_⟩
  rcases Nat.lt_or_ge x ops.size with hlt | hge
  · have := h10 x (List.mem_range.2 hlt)
    rw [hx] at this
    simpa using this
  · rw [← h9] at hge
    simp [Array.getD, Nat.not_lt.2 hge] at hx

theorem lexTkB (i : Nat) (R : Array Bool) {oi : Oper} {v : Value} {fuel : Nat} {listed : Array Bool} {a : Act} {w : World} (hi : ops.toList[i]? = some oi)
    (hS : T w) (h : wpAnyB P md ops Q T k fuel (listed.setIfInBounds i true) (a.put oi.dst v) w) (hB : takeB md ops listed R i k = true) (hQ : ∀ c a w, Q (.panic c) (a.put oi.dst v) w → Q (.panic c) a w)
    (hw : Region.wanted oi (yielded ops a.tmps) = true) (hy : ∀ w, T w → (execOp a.eval oi).run P w = .ok (.value v) w) : wpAnyB P md ops Q T k (fuel + 1) listed a w := by
  obtain ⟨h1, h2, h3, h4, h5, h6, h7, h8, h9⟩ := takeB_spec hB
  have hi' : ops[i]? = some oi := by simpa using hi
  exact wpAnyB_first hi' (Region.noSelect_spec h1) hQ h4 h5 h6 h7 fuel listed a w (Region.free_spec hi' h2) h9 h8 (by simpa using h3) (Or.inl ⟨hw, hy⟩) hS h

/-- The one that may come up, ahead of the barrier. -/
theorem lexHvB (i : Nat) {o : Oper} {fuel : Nat} {listed : Array Bool} {a : Act} {w : World} (hi : ops.toList[i]? = some o)
    (h : ∀ K' : Act → World → Prop, Shut (∀ a w, T w → (T w → wpAnyB P md ops Q T k fuel (listed.setIfInBounds i true) a w) → K' a w) → if Region.wanted o (yielded ops a.tmps) = true then Oper.wp P o a w K' Q else K' (a.put o.dst undef) w)
    (hr : Region.ready md ops listed = [i]) : wpAnyB P md ops Q T k (fuel + 1) listed a w :=
  ⟨fun h0 => (by rw [hr] at h0; cases h0), fun j hj => by
    rw [hr] at hj
    obtain rfl : j = i := by simpa using hj
    exact wpOp_step (by simpa using hi) (fun K' hK => h K' (fun a w hS hW => hK a w ⟨fun _ => hS, hW hS⟩))⟩

theorem wpAnyB_firstF {i : Nat} {oi : Oper} {v : Value} (hi : ops[i]? = some oi) (hsel : ∀ (j : Nat) (o : Oper) cs b, ops[j]? = some o → o.op ≠ .select cs b)
    (hQ : ∀ c a w, Q (.panic c) (a.put oi.dst v) w → Q (.panic c) a w) (hik : i ≠ k) :
    ∀ (fuel : Nat) (listed : Array Bool) (a : Act) (w : World),
      (∀ j oj, ops[j]? = some oj → j ≠ i → listed.getD j true = false → (∀ e ∈ oj.after, Region.binds md e = true → e.on ≠ i) → oi.apart ops oj = true) →
      i ∈ Region.ready md ops listed → YieldsIf P ops (fun _ => True) oi v a → (listed.getD k true = false → T w) →
      wpAnyB P md ops Q T k fuel (listed.setIfInBounds i true) (a.put oi.dst v) w → wpAnyB P md ops Q T k (fuel + 1) listed a w := by
  intro fuel
  induction fuel with
  | zero =>
    intro listed a w _ hr hy hS H
    refine ⟨fun h => (by rw [h] at hr; cases hr), fun j hj => ?_⟩
    by_cases hji : j = i
    · subst hji; exact hy.wpOp hi trivial ⟨fun h => hS (by rwa [getD_set_ne true hik] at h), H⟩
    · have := ready_mono hj hji
      rw [H.1] at this
      cases this
  | succ fuel ih =>
    intro listed a w hfree hr hy hS H
    refine ⟨fun h => (by rw [h] at hr; cases hr), fun j hj => ?_⟩
    by_cases hji : j = i
    · subst hji; exact hy.wpOp hi trivial ⟨fun h => hS (by rwa [getD_set_ne true hik] at h), H⟩
    · have h1 := H.2 j (ready_mono hj hji)
      obtain ⟨hjun, oj, hoj, hall⟩ := mem_ready.1 hj
      have hnot : ∀ e ∈ oj.after, Region.binds md e = true → e.on ≠ i := fun e he hb heq => by
        have h1 := hall e he hb
        have h0 := (mem_ready.1 hr).1
        rw [heq] at h1
        rcases Nat.lt_or_ge i listed.size with h' | h'
        · simp [h'] at h0 h1; rw [h0] at h1; cases h1
        · simp [Array.getElem?_eq_none h'] at h1
      have h2 := wpOp_putIf hoj (hfree j oj hoj hji hjun hnot) (fun cs b => hsel i oi cs b hi) (fun cs b => hsel j oj cs b hoj) hQ hy h1
      have hfree' : ∀ k ok, ops[k]? = some ok → k ≠ i → (listed.setIfInBounds j true).getD k true = false →
          (∀ e ∈ ok.after, Region.binds md e = true → e.on ≠ i) → oi.apart ops ok = true := fun k ok hk hki hun hno => by
        refine hfree k ok hk hki ?_ hno
        by_cases hjk : j = k
        · subst hjk; exact hjun
        · rw [getD_set_ne true hjk] at hun; exact hun
      have hsw : (listed.setIfInBounds j true).getD k true = ((listed.setIfInBounds i true).setIfInBounds j true).getD k true := by
        rw [Array.setIfInBounds_comm _ _ (Ne.symm hji), getD_set_ne true hik]
      refine wpOp_mono (fun a' w' h3 => ⟨fun h => h3.2.1 (hsw ▸ h), ih (listed.setIfInBounds j true) a' w' hfree' (ready_mono hr (Ne.symm hji)) h3.1 (fun h => h3.2.1 (hsw ▸ h)) ?_⟩) h2
      rw [Array.setIfInBounds_comm _ _ hji]
      exact h3.2.2

/-- An operation that reads no memory may be taken first, whatever the barrier. -/
theorem lexTkF (i : Nat) {oi : Oper} {v : Value} {fuel : Nat} {listed : Array Bool} {a : Act} {w : World} (hi : ops.toList[i]? = some oi)
    (hS : T w) (h : wpAnyB P md ops Q T k fuel (listed.setIfInBounds i true) (a.put oi.dst v) w) (hB : (Region.noSelect ops && Region.free md ops listed i && (Region.ready md ops listed).contains i && i != k) = true) (hQ : ∀ c a w, Q (.panic c) (a.put oi.dst v) w → Q (.panic c) a w)
    (hw : Region.wanted oi (yielded ops a.tmps) = true) (hy : ∀ w, True → (execOp a.eval oi).run P w = .ok (.value v) w) : wpAnyB P md ops Q T k (fuel + 1) listed a w := by
  simp only [Bool.and_eq_true, bne_iff_ne, ne_eq] at hB
  have hi' : ops[i]? = some oi := by simpa using hi
  exact wpAnyB_firstF hi' (Region.noSelect_spec hB.1.1.1) hQ hB.2 fuel listed a w (Region.free_spec hi' hB.1.1.2) (by simpa using hB.1.2) (Or.inl ⟨hw, hy⟩) (fun _ => hS) h

/-- The one that may come up: the barrier, or what is behind it. -/
theorem lexHvE (i : Nat) {o : Oper} {fuel : Nat} {listed : Array Bool} {a : Act} {w : World} (hi : ops.toList[i]? = some o)
    (h : ∀ K' : Act → World → Prop, Shut (∀ a w, wpAnyB P md ops Q T k fuel (listed.setIfInBounds i true) a w → K' a w) → if Region.wanted o (yielded ops a.tmps) = true then Oper.wp P o a w K' Q else K' (a.put o.dst undef) w)
    (hr : Region.ready md ops listed = [i]) (hk : (listed.setIfInBounds i true).getD k true = true) : wpAnyB P md ops Q T k (fuel + 1) listed a w :=
  ⟨fun h0 => (by rw [hr] at h0; cases h0), fun j hj => by
    rw [hr] at hj
    obtain rfl : j = i := by simpa using hj
    exact wpOp_step (by simpa using hi) (fun K' hK => h K' (fun a w hW => hK a w ⟨fun e => (by rw [hk] at e; cases e), hW⟩))⟩

theorem wpAnyB_done {listed : Array Bool} {a : Act} {w : World} (hr : Region.ready md ops listed = []) (h : Q .normal a w) :
    ∀ fuel, wpAnyB P md ops Q T k fuel listed a w
  | 0 => ⟨hr, h⟩
  | _ + 1 => ⟨fun _ => h, by rw [hr]; simp⟩

theorem wp_region_B (k : Nat) {id : Nat} {a : Act} {w : World} (hm : P.follows .mixedOrders = true) (hS : T w.drew)
    (h : T w.drew → wpAnyB P .any ops Q T k ops.size (Array.replicate ops.size false) a w.drew) : (Code.region id ops true).wp P Q a w :=
  wp_region_any hm (wpAny_of_B _ _ _ _ (h hS))
end
end Go.Proofs.Ytdbonlpkmncggaa

namespace Go.Proofs.Ytdbonlpkmncggaa
open Go.RowKit

/-- What stands behind a forced head: a walk that only reads. -/
inductive CalmNext (P : Program) (ops : Array Oper) (Q : Exit → Act → World → Prop) (l : List Oper) : Exit → Act → World → Prop
  | normal {a : Act} {w : World} : wpQuiet P ops (fun w' => ∃ n, w' = w.drewN n) (fun a' => ∀ w', (∃ n, w' = w.drewN n) → Q .normal a' w') l a → CalmNext P ops Q l .normal a w
  | other {e : Exit} {a : Act} {w : World} : e ≠ .normal → Q e a w → CalmNext P ops Q l e a w

theorem wpAny_of_head_calm {P : Program} {md : Region.Mode} {ops : Array Oper} {Q : Exit → Act → World → Prop} {rest : List Oper} (hs : Region.noSelect ops = true) (m : Nat) (hrest : ∀ j, rest[j]? = ops[m + j]?) :
    ∀ (l : List Oper) (k : Nat) (listed : Array Bool) (a : Act) (w : World), k + l.length = m → (∀ j, j < l.length → l[j]? = ops[k + j]?) → headB md ops l.length k listed = true →
      Region.lexFrom md ops rest.length m (markB l.length k listed) = true → wpList P ops (CalmNext P ops Q rest) l a w → wpAny P md ops Q (l.length + rest.length) listed a w
  | [], k, listed, a, w, hk, _, _, hlex, h => by
    rw [List.length_nil, Nat.zero_add]
    refine wpAny_of_quiet (C := fun w' => ∃ n, w' = w.drewN n) (Q := fun a' => ∀ w', (∃ n, w' = w.drewN n) → Q .normal a' w') (fun _ w' hw' h => h w' hw') _ _ _ _ ⟨0, rfl⟩ ?_
    have h' : CalmNext P ops Q rest .normal a w := h
    cases h' with
    | normal h' => exact wpAnyQ_lex hs rest m listed a hrest hlex h'
    | other hne _ => exact absurd rfl hne
  | o :: l, k, listed, a, w, hk, hl, hB, hlex, h => by
    have h0 : ops[k]? = some o := by have := hl 0 (by simp); simpa using this.symm
    simp only [List.length_cons, headB, Bool.and_eq_true, decide_eq_true_eq] at hB
    rw [List.length_cons, show l.length + 1 + rest.length = l.length + rest.length + 1 by omega]
    refine ⟨fun h1 => (by rw [hB.1] at h1; cases h1), fun i hi => ?_⟩
    rw [hB.1] at hi
    obtain rfl : i = k := by simpa using hi
    have hq : ∀ e a w, e ≠ .normal → CalmNext P ops Q rest e a w → Q e a w := fun e a w he hh => by
      cases hh with
      | normal _ => exact absurd rfl he
      | other _ h => exact h
    have hw : wpOp P ops Q i (wpList P ops (CalmNext P ops Q rest) l) a w := by
      unfold wpList at h
      unfold wpOp
      simp only [h0]
      split
      · rename_i hwant
        rw [if_pos hwant] at h
        rcases h with h | ⟨h1, a', w', h2⟩
        · exact .inl (wp_q hq h)
        · exact .inr ⟨h1, a', w', hq _ _ _ (by simp) h2⟩
      · rename_i hwant
        rw [if_neg hwant] at h
        exact h
    exact wpOp_mono (fun a' w' h' => wpAny_of_head_calm hs m hrest l (i + 1) _ a' w' (by simp at hk; omega) (fun j hj => by have := hl (j + 1) (by simp; omega); simpa [Nat.add_assoc, Nat.add_comm 1 j] using this) hB.2 hlex h') hw

/-- The same behind three operations that look at no memory (a value, an index, an address). -/
theorem wp_region_free_head_quiet {P : Program} {id : Nat} {Q : Exit → Act → World → Prop} {a : Act} {w : World} {o0 o1 o2 : Oper} {l : List Oper} (v0 v1 v2 : Value) (n : Nat) (hm : P.follows .mixedOrders = true)
    (hs : Region.noSelect (o0 :: o1 :: o2 :: l).toArray = true)
    (hf0 : (Region.free .any (o0 :: o1 :: o2 :: l).toArray (Array.replicate (l.length + 3) false) 0 && (Region.ready .any (o0 :: o1 :: o2 :: l).toArray (Array.replicate (l.length + 3) false)).contains 0) = true)
    (hf1 : (Region.free .any (o0 :: o1 :: o2 :: l).toArray ((Array.replicate (l.length + 3) false).setIfInBounds 0 true) 1 && (Region.ready .any (o0 :: o1 :: o2 :: l).toArray ((Array.replicate (l.length + 3) false).setIfInBounds 0 true)).contains 1) = true)
    (hf2 : (Region.free .any (o0 :: o1 :: o2 :: l).toArray (((Array.replicate (l.length + 3) false).setIfInBounds 0 true).setIfInBounds 1 true) 2 && (Region.ready .any (o0 :: o1 :: o2 :: l).toArray (((Array.replicate (l.length + 3) false).setIfInBounds 0 true).setIfInBounds 1 true)).contains 2) = true)
    (hn : n ≤ l.length)
    (hB : (headB .any (o0 :: o1 :: o2 :: l).toArray n 3 ((((Array.replicate (l.length + 3) false).setIfInBounds 0 true).setIfInBounds 1 true).setIfInBounds 2 true) &&
      Region.lexFrom .any (o0 :: o1 :: o2 :: l).toArray (l.length - n) (3 + n) (markB n 3 ((((Array.replicate (l.length + 3) false).setIfInBounds 0 true).setIfInBounds 1 true).setIfInBounds 2 true))) = true)
    (hQ0 : ∀ c a w, Q (.panic c) (a.put o0.dst v0) w → Q (.panic c) a w) (hQ1 : ∀ c a w, Q (.panic c) (a.put o1.dst v1) w → Q (.panic c) a w) (hQ2 : ∀ c a w, Q (.panic c) (a.put o2.dst v2) w → Q (.panic c) a w)
    (hy0 : Yields P (o0 :: o1 :: o2 :: l).toArray o0 v0 a) (hy1 : Yields P (o0 :: o1 :: o2 :: l).toArray o1 v1 (a.put o0.dst v0)) (hy2 : Yields P (o0 :: o1 :: o2 :: l).toArray o2 v2 ((a.put o0.dst v0).put o1.dst v1))
    (h : wpList P (o0 :: o1 :: o2 :: l).toArray (CalmNext P (o0 :: o1 :: o2 :: l).toArray Q (l.drop n)) (l.take n) (((a.put o0.dst v0).put o1.dst v1).put o2.dst v2) w.drew) : (Code.region id (o0 :: o1 :: o2 :: l).toArray true).wp P Q a w := by
  simp only [Bool.and_eq_true] at hf0 hf1 hf2 hB
  refine wp_region_any hm ?_
  rw [show (o0 :: o1 :: o2 :: l).toArray.size = l.length + 3 by simp]
  refine wpAny_take (i := 0) (v := v0) rfl hs hf0.1 hf0.2 hQ0 hy0 ?_
  refine wpAny_take (i := 1) (v := v1) rfl hs hf1.1 hf1.2 hQ1 hy1 ?_
  refine wpAny_take (i := 2) (v := v2) rfl hs hf2.1 hf2.2 hQ2 hy2 ?_
  have e1 : (l.take n).length = n := by simp; omega
  have e2 : (l.drop n).length = l.length - n := by simp
  have := wpAny_of_head_calm (P := P) (md := .any) (ops := (o0 :: o1 :: o2 :: l).toArray) (Q := Q) (rest := l.drop n) hs (3 + n) (fun j => by rw [List.getElem?_drop]; simp [show 3 + n + j = n + j + 1 + 1 + 1 by omega]) (l.take n) 3 _ _ w.drew (by rw [e1])
    (fun j hj => by rw [e1] at hj; simp [hj, show 3 + j = j + 1 + 1 + 1 by omega]) (by rw [e1]; exact hB.1) (by rw [e1, e2]; exact hB.2) h
  rw [e1, e2, show n + (l.length - n) = l.length by omega] at this
  exact this
end Go.Proofs.Ytdbonlpkmncggaa

namespace Go.Proofs.Ytdbonlpkmncggaa
open Go.RowKit

theorem bitLen_is2 {m k : Nat} (h : m < 2 ^ k) (h' : k = 0 ∨ 2 ^ (k - 1) ≤ m) (hm : m < 2 ^ 64) : Lib.bitLen m = k := by
  rcases Nat.eq_zero_or_pos m with h0 | h0
  · subst h0
    have : Lib.bitLen 0 = 0 := Lib.bitLenAux_zero 64
    rcases h' with h' | h'
    · omega
    · have := Nat.two_pow_pos (k - 1); omega
  · obtain ⟨h1, h2, h3⟩ := Lib.bitLenAux_bounds 64 m hm (by omega)
    show Lib.bitLenAux 64 m = k
    generalize Lib.bitLenAux 64 m = j at *
    rcases h' with h' | h'
    · subst h'; omega
    · rcases Nat.lt_trichotomy j k with h4 | h4 | h4
      · have := Nat.pow_le_pow_right (show 0 < 2 by omega) (show j ≤ k - 1 by omega); omega
      · exact h4
      · have := Nat.pow_le_pow_right (show 0 < 2 by omega) (show k ≤ j - 1 by omega); omega

set_option maxRecDepth 100000 in
set_option maxHeartbeats 800000 in
theorem rlog2_any (n : Int) (w : World) (hn : Ok64 n) :
    Calls Try.prog 71 #[.int .i64 n] w fun e w' => e = .returned (.int .i64 (Lib.bitLen (n.toNat - 1))) ∧ w = w' := by
  have HN := Lib.hid hn
  unfold Ok64 at hn
  go_enter Try.func71, Try.ntmps71
  go_wp2
  go_loop [3, 4] (fun k p => ∃ (j q : Nat), k = .int .i64 j ∧ p = .int .i64 q ∧ q = 2 ^ j ∧ q ≤ 4611686018427387904 ∧ j ≤ 62 ∧ (j = 0 ∨ 2 ^ (j - 1) ≤ n.toNat - 1)) (fun k _ => 63 - (intOf k).toNat)
  case atStart => exact ⟨0, 1, rfl, rfl, rfl, by omega, by omega, .inl rfl⟩
  case round =>
    obtain ⟨j, q, rfl, rfl, hq, hq2, hj, hlow⟩ := hrel
    have HQ := Lib.hid hq; clear hq
    have HLOW := Lib.hid hlow; clear hlow
    by_cases hlt : (q : Int) < n
    · by_cases h62 : j = 62
      · subst h62
        have hq3 : (q : Int) = 4611686018427387904 := by have := HQ.out; omega
        have hneg : wrap64 ((q : Int) * 2) < 0 := by rw [hq3]; unfold wrap64; omega
        have HQ3 := Lib.hid hq3; clear hq3
        go_wp2
        go_ret
        refine ⟨ret_int ?_, rfl⟩
        rw [bitLen_is2 (k := 63) (m := n.toNat - 1) (by omega) (.inr (by have := HQ3.out; show 2 ^ 62 ≤ _; omega)) (by omega)]
        rfl
      · have hq4 : (q : Int) ≤ 2305843009213693952 := by
          have : 2 ^ j ≤ 2 ^ 61 := Nat.pow_le_pow_right (by omega) (by omega)
          rw [← HQ.out] at this; omega
        go_wp2
        go_round
        case rel => exact ⟨j + 1, q * 2, by go_num, by go_num, by rw [HQ.out, Nat.pow_succ], by omega, by omega, .inr (by rw [Nat.add_sub_cancel, ← HQ.out]; omega)⟩
        case measure => simp [intOf]; omega
    · go_wp2
      go_ret
      refine ⟨ret_int ?_, rfl⟩
      rw [bitLen_is2 (k := j) (m := n.toNat - 1) (by rw [← HQ.out]; have := Nat.two_pow_pos j; have := HQ.out; omega) HLOW.out (by omega)]
end Go.Proofs.Ytdbonlpkmncggaa

namespace Go.Proofs.Ytdbonlpkmncggaa
open Go.RowKit

end Go.Proofs.Ytdbonlpkmncggaa

namespace Go.Proofs.Ytdbonlpkmncggaa
open Go.RowKit

end Go.Proofs.Ytdbonlpkmncggaa

namespace Go.Proofs.Ytdbonlpkmncggaa
open Go.RowKit

theorem appInts_step {P : Program} {ops : Array Oper} {o : Oper} {a : Act} {K : Act → World → Prop} {Q : Exit → Act → World → Prop} {E : Prop} (hgd : o.guard = none) (s x : Operand) (t : TypeId)
    (ho : o.op = .call { callee := .builtin .append, args := #[s, x], argTypes := #[t, t] })
    {e : TypeId} {z : Value} {bytes : Nat} (ht : P.underlying t = some (.slice e)) (hE : EI P e z 1 bytes)
    (base : Nat) {v : Value} {n : Nat} {xs : List Value} {W : World} {k : IntKind} {vx : Value} {l : List Int} (hs : a.eval s = v) (hown : W.ownsRow base e 1 v n xs)
    (hx : a.eval x = vx) (hl : Ints k W vx l) (hbytes : (n + l.length) * bytes ≤ 140737488355328) (hbase : base ≤ W.heap.size)
    (h : ∀ v' w', w'.ownsRow base e 1 v' (n + l.length) (xs ++ l.map (Value.int k)) → Below base W w' → (∀ q, q < W.heap.size → v.ownBlock ≠ some q → w'.heap[q]? = W.heap[q]?) → K (a.put o.dst v') w') :
    if Region.wanted o (yielded ops a.tmps) = true then o.wp P a W K Q else E := by
  have hw : Region.wanted o (yielded ops a.tmps) = true := by unfold Region.wanted; rw [hgd]
  rw [if_pos hw]
  obtain ⟨i, hi, hz, hsize, hby, hzs, hsz, hbp⟩ := hE
  have h63 : n + l.length ≤ 140737488355328 := Nat.le_trans (Nat.le_mul_of_pos_right _ hbp) hbytes
  obtain ⟨ad, c, rfl, g1, g2, g3, h4⟩ := hl
  rcases ad with _ | ad
  · have hl0 : l = [] := by
      cases l with
      | nil => rfl
      | cons x l => obtain ⟨b, o, e, _⟩ := h4 0 x rfl; cases e
    subst hl0
    have hrun : (Builtin.append_ #[t, t] o.type #[v, .slice none 0 c]).run P W = .ok v W := by
      rcases hown.2 with ⟨rfl, rfl⟩ | ⟨g, cap, cur, rfl, _, _, hnc, _⟩
      · simp [Builtin.append_, run_underlying ht, sizeOf, typeInfo, hi, Builtin.lenOf, Builtin.firstCells]
      · simp [Builtin.append_, run_underlying ht, sizeOf, typeInfo, hi, Builtin.lenOf, Builtin.firstCells, hnc, storeCells]
    unfold Oper.wp execOp
    simp only [ho, resolve, invoke, builtin, Sem.run_bind, Sem.run_pure, Result.andThen_ok, List.map_toArray, List.map_cons, List.map_nil, hs, hx, List.length_nil, hrun]
    exact h v W (by simpa using hown) (Below.refl _ _) fun _ _ _ => rfl
  · obtain ⟨v', w', hrun, h2, h3, _⟩ := run_append_own_at (P := P) W base t o.type e i z 1 bytes ht hi hz hsize hby hzs hsz v n xs hown ad l.length c (l.map (Value.int k)) (by simp) (by
      intro j u hu
      rw [List.getElem?_map] at hu
      cases hy : l[j]? with
      | none => rw [hy] at hu; cases hu
      | some y =>
        rw [hy] at hu
        obtain ⟨b, o, e, _, hc⟩ := h4 j y hy
        injection e with e
        subst e
        have hadd : (⟨b, o, none⟩ : Addr).add j = ⟨b, o + j, none⟩ := by unfold Addr.add; split <;> simp_all
        rw [hadd, hc]
        simpa using hu) (by intro u hu; obtain ⟨y, _, rfl⟩ := List.mem_map.1 hu; rfl) (by unfold maxLen; omega) hbytes hbase
    unfold Oper.wp execOp
    simp only [ho, resolve, invoke, builtin, Sem.run_bind, Sem.run_pure, Result.andThen_ok, List.map_toArray, List.map_cons, List.map_nil, hs, hx, hrun]
    exact h v' w' h2 ((Below.refl _ _).grown h3 hbase fun k hk => (hown.lt k hk).1) (fun q hq hne => h3.block q hq (fun h => hne h.symm))
end Go.Proofs.Ytdbonlpkmncggaa
