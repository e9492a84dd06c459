/-
  TreeQ: Plain laws of trees: how deep nodes are, the leaves in their order, how long paths are.
  LexB: A drawn region with a barrier: a store into a cell that the region loads, behind all loads: the cells must hold as they were up to the barrier alone.
  ItemB: Walks of item.checked (a score), item.GetScore, and of the reference's form and GetScore.
  ItemK: Walks of RightSeen, the program's and the reference's.
  BinV: Walk of the reader's Ints once more: what it hands back is new memory.
  Tail2: A region that draws its order: three operations that look at no memory, a forced head (calls), behind it operations that only read.
  RefLog: Walk of copseref01.Log.
  HarmB: Walks of copseref05: the average of a number of points.
  RowZ: A struct of many cells: stored whole, loaded whole, given back whole.
  ScoreB: Walks of score.all and of the reference's All.
  ScoreC: Walks of score.merge and score.sorted.
  ScoreD: Walks of score.sorted and score.Sort.
  ScoreE: Walks of score.Sort and of the reference's Sort.
  QuantA: Walks of quant.asked, quant.Index, ratio.Of and of the reference's Asked, Index, Of.
  QuantB: Walks of quant.Line, quant.Over, quant.Count, quant.Share and of the reference's.
  WoodP: Plain laws of layer 23: how a tree's nodes lie as bytes, what is read of any bytes.
  WoodQ: Plain laws of layer 23: reading with a row of nodes that must come.
  WoodR: Plain laws of layer 23: sizes behind the reading; the bytes of a tree are read as it was.
-/
import Derived.Test.YtgobbecpnjelmaaGreatJ0b
import Derived.Test.YtgobbecpnjelmaaGreatJ0a
import Derived.Lib.ItoaNum
import Derived.Deep.MidRow
namespace Go.Proofs.YtgobbecpnjelmaaGreat
open Go.RowKit

/-- How deep a node is, seen from one above. -/
def depT (t : TreeP) : Nat → Nat → Nat → Nat
 | 0, _, _ => 0
 | f + 1, i, j => if j = i then 0 else match t.nodes[i]? with
  | none => 0
  | some n => if (j : Int) < n.right then depT t f (i + 1) j + 1 else depT t f n.right.toNat j + 1

theorem depT_self (t : TreeP) (f i : Nat) : depT t f i i = 0 := by
 cases f with
 | zero => rfl
 | succ f => simp [depT]

theorem depT_left {t : TreeP} {f i j : Nat} {n : NodeP} (hn : t.nodes[i]? = some n) (hj : j ≠ i) (hr : (j : Int) < n.right) : depT t (f + 1) i j = depT t f (i + 1) j + 1 := by
 rw [depT, if_neg hj, hn]; simp [hr]

theorem depT_right {t : TreeP} {f i j : Nat} {n : NodeP} (hn : t.nodes[i]? = some n) (hj : j ≠ i) (hr : ¬ (j : Int) < n.right) : depT t (f + 1) i j = depT t f n.right.toNat j + 1 := by
 rw [depT, if_neg hj, hn]; simp [hr]

theorem Sub.dep {t : TreeP} {i e h : Nat} {s : Int} (q : Sub t i e h s) : ∀ f, h ≤ f → ∀ j, i ≤ j → j < e → depT t f i j = depT t h i j ∧ depT t h i j ≤ h := by
 induction q with
 | @leaf i n hn hl =>
  intro f hf j h1 h2
  obtain rfl : j = i := by omega
  rw [depT_self, depT_self]
  exact ⟨rfl, Nat.le_refl _⟩
 | @node i m e a b x y n hn hl hc q1 hr q2 hs ih1 ih2 =>
  intro f hf j h1 h2
  obtain ⟨f, rfl⟩ : ∃ g, f = g + 1 := ⟨f - 1, by omega⟩
  rw [Nat.add_comm 1 (max a b)]
  have l1 := q1.lt; have l2 := q2.lt
  rcases Nat.lt_or_ge i j with h3 | h3
  ·by_cases h4 : j < m
   ·rw [depT_left hn (by omega) (by omega), depT_left hn (by omega) (by omega)]
    have g1 := ih1 f (by omega) j (by omega) h4
    have g2 := ih1 (max a b) (by omega) j (by omega) h4
    omega
   ·rw [depT_right hn (by omega) (by omega), depT_right hn (by omega) (by omega), show n.right.toNat = m by omega]
    have g1 := ih2 f (by omega) j (by omega) h2
    have g2 := ih2 (max a b) (by omega) j (by omega) h2
    omega
  ·obtain rfl : j = i := by omega
   rw [depT_self, depT_self]
   exact ⟨rfl, by omega⟩

def depOf (t : TreeP) (i : Nat) : Nat := depT t 6 0 i

def sizeOf' (t : TreeP) (i : Nat) : Int := (t.nodes[i]?).elim 0 NodeP.size

def lenOf (t : TreeP) (i : Nat) : Int := (depOf t i : Int) * 1073741824 + normI (sizeOf' t i)
end Go.Proofs.YtgobbecpnjelmaaGreat

namespace Go.Proofs.YtgobbecpnjelmaaGreat
open Go.RowKit

theorem own_set {w : World} {base e size n : Nat} {v : Value} {xs : List Value} {A : Addr} {u : Value} (h : w.ownsRow base e size v n xs) (hA : A.block < base) : (w.setCell A u).ownsRow base e size v n xs :=
 own_keep h fun g hg _ => Below.heap_setCell _ _ _ _ (by omega)

theorem own_drew {w : World} {base e size n : Nat} {v : Value} {xs : List Value} (h : w.ownsRow base e size v n xs) : w.drew.ownsRow base e size v n xs := h

/-- The block of a slice lies between two bounds. -/
def Betw (B U : Nat) (v : Value) : Prop := ∀ b o n c, v = .slice (some ⟨b, o, none⟩) n c → B ≤ b ∧ b < U

theorem Betw.own {w : World} {base e size n : Nat} {v : Value} {xs : List Value} (h : w.ownsRow base e size v n xs) : Betw base w.heap.size v := fun b o n' c' hv => by
 have hlt := h.lt
 subst hv
 rcases h.2 with ⟨h1, _⟩ | ⟨g, cap, cur, h1, _⟩
 ·cases h1
 ·injection h1 with h1 h2 h3
  injection h1 with h1
  injection h1 with h1 h2
  subst h1
  exact hlt b (by subst h2 h3; rfl)

section
variable {P : Program} {ops : Array Oper} {Q : Exit → Act → World → Prop} {md : Region.Mode} {T : World → Prop} {k : Nat}

/-- Whatever order is picked from here on; T holds behind every operation ahead of the barrier k. -/
def wpAnyB (P : Program) (md : Region.Mode) (ops : Array Oper) (Q : Exit → Act → World → Prop) (T : World → Prop) (k : Nat) : Nat → Array Bool → Act → World → Prop
 | 0, listed, a, w => Region.ready md ops listed = [] ∧ Q .normal a w
 | fuel + 1, listed, a, w =>
  (Region.ready md ops listed = [] → Q .normal a w) ∧
  ∀ i ∈ Region.ready md ops listed, wpOp P ops Q i (fun a' w' => ((listed.setIfInBounds i true).getD k true = false → T w') ∧ wpAnyB P md ops Q T k fuel (listed.setIfInBounds i true) a' w') a w

theorem wpAny_of_B : ∀ (fuel : Nat) (listed : Array Bool) (a : Act) (w : World), wpAnyB P md ops Q T k fuel listed a w → wpAny P md ops Q fuel listed a w
 | 0, _, _, _, h => h
 | fuel + 1, _, _, _, h => ⟨h.1, fun i hi => wpOp_mono (fun a' w' h' => wpAny_of_B fuel _ a' w' h'.2) (h.2 i hi)⟩

theorem wpAnyB_first {i : Nat} {oi : Oper} {v : Value} {R : Array Bool} (hi : ops[i]? = some oi) (hsel : ∀ (j : Nat) (o : Oper) cs b, ops[j]? = some o → o.op ≠ .select cs b)
  (hQ : ∀ c a w, Q (.panic c) (a.put oi.dst v) w → Q (.panic c) a w) (hRs : R.size = ops.size) (hcl : ∀ j ∈ Region.ready md ops R, j = i) (hRk : R.getD k true = false) (hik : i ≠ k) :
  ∀ (fuel : Nat) (listed : Array Bool) (a : Act) (w : World),
   (∀ j oj, ops[j]? = some oj → j ≠ i → listed.getD j true = false → (∀ e ∈ oj.after, Region.binds md e = true → e.on ≠ i) → oi.apart ops oj = true) →
   (∀ x, listed.getD x false = true → R.getD x false = true) → listed.getD k true = false →
   i ∈ Region.ready md ops listed → YieldsIf P ops T oi v a → T w →
   wpAnyB P md ops Q T k fuel (listed.setIfInBounds i true) (a.put oi.dst v) w → wpAnyB P md ops Q T k (fuel + 1) listed a w := by
 have hjR : ∀ (listed : Array Bool) (j : Nat), (∀ x, listed.getD x false = true → R.getD x false = true) → j ∈ Region.ready md ops listed → j ≠ i → R.getD j false = true ∧ j ≠ k := by
  intro listed j hsub hj hji
  obtain ⟨_, oj, hoj, hall⟩ := mem_ready.1 hj
  have hlt : j < R.size := by rw [hRs]; exact (Array.getElem?_eq_some_iff.1 hoj).1
  have h1 : R.getD j true = true := by
   cases hb : R.getD j true with
   | true => rfl
   | false => exact absurd (hcl j (mem_ready.2 ⟨hb, oj, hoj, fun e he hbd => hsub _ (hall e he hbd)⟩)) hji
  refine ⟨?_, fun e => ?_⟩
  ·simpa [Array.getD, hlt] using h1
  ·subst e
   rw [h1] at hRk
   cases hRk
 intro fuel
 induction fuel with
 | zero =>
  intro listed a w _ hsub hk hr hy hS H
  refine ⟨fun h => (by rw [h] at hr; cases hr), fun j hj => ?_⟩
  by_cases hji : j = i
  ·subst hji; exact hy.wpOp hi hS ⟨fun _ => hS, H⟩
  ·have := ready_mono hj hji
   rw [H.1] at this
   cases this
 | succ fuel ih =>
  intro listed a w hfree hsub hk hr hy hS H
  refine ⟨fun h => (by rw [h] at hr; cases hr), fun j hj => ?_⟩
  by_cases hji : j = i
  ·subst hji; exact hy.wpOp hi hS ⟨fun _ => hS, H⟩
  ·have h1 := H.2 j (ready_mono hj hji)
   obtain ⟨hjun, oj, hoj, hall⟩ := mem_ready.1 hj
   have hnot : ∀ e ∈ oj.after, Region.binds md e = true → e.on ≠ i := fun e he hb heq => by
    have h1 := hall e he hb
    have h0 := (mem_ready.1 hr).1
    rw [heq] at h1
    rcases Nat.lt_or_ge i listed.size with h' | h'
    ·simp [h'] at h0 h1; rw [h0] at h1; cases h1
    ·simp [Array.getElem?_eq_none h'] at h1
   have h2 := wpOp_putIf hoj (hfree j oj hoj hji hjun hnot) (fun cs b => hsel i oi cs b hi) (fun cs b => hsel j oj cs b hoj) hQ hy h1
   obtain ⟨hRj, hjk⟩ := hjR listed j hsub hj hji
   have hfree' : ∀ k ok, ops[k]? = some ok → k ≠ i → (listed.setIfInBounds j true).getD k true = false →
     (∀ e ∈ ok.after, Region.binds md e = true → e.on ≠ i) → oi.apart ops ok = true := fun k ok hk hki hun hno => by
    refine hfree k ok hk hki ?_ hno
    by_cases hjk : j = k
    ·subst hjk; exact hjun
    ·rw [getD_set_ne true hjk] at hun; exact hun
   have hk2 : (listed.setIfInBounds j true).getD k true = false := by rw [getD_set_ne true hjk]; exact hk
   have hsub2 : ∀ x, (listed.setIfInBounds j true).getD x false = true → R.getD x false = true := fun x hx => by
    by_cases hxj : j = x
    ·subst hxj; exact hRj
    ·rw [getD_set_ne false hxj] at hx; exact hsub x hx
   have hk3 : ((listed.setIfInBounds i true).setIfInBounds j true).getD k true = false := by rw [getD_set_ne true hjk, getD_set_ne true hik]; exact hk
   refine wpOp_mono (fun a' w' h3 => ⟨fun _ => h3.2.1 hk3, ih (listed.setIfInBounds j true) a' w' hfree' hsub2 hk2 (ready_mono hr (Ne.symm hji)) h3.1 (h3.2.1 hk3) ?_⟩) h2
   rw [Array.setIfInBounds_comm _ _ hji]
   exact h3.2.2

/-- May i be taken first, ahead of the barrier k? R: all that may come up without i. -/
def takeB (md : Region.Mode) (ops : Array Oper) (listed R : Array Bool) (i k : Nat) : Bool :=
 Region.noSelect ops && Region.free md ops listed i && (Region.ready md ops listed).contains i && R.size == ops.size && (Region.ready md ops R).all (fun j => j == i) && !R.getD k true && i != k && !listed.getD k true
  && listed.size == ops.size && (List.range ops.size).all fun x => !listed.getD x false || R.getD x false

theorem takeB_spec {listed R : Array Bool} {i : Nat} (h : takeB md ops listed R i k = true) : Region.noSelect ops = true ∧ Region.free md ops listed i = true ∧ (Region.ready md ops listed).contains i = true ∧ R.size = ops.size ∧
  (∀ j ∈ Region.ready md ops R, j = i) ∧ R.getD k true = false ∧ i ≠ k ∧ listed.getD k true = false ∧ (∀ x, listed.getD x false = true → R.getD x false = true) := by
 unfold takeB at h
 simp only [Bool.and_eq_true, Bool.not_eq_true', List.all_eq_true, beq_iff_eq, bne_iff_ne, ne_eq] at h
 obtain ⟨⟨⟨⟨⟨⟨⟨⟨⟨h1, h2⟩, h3⟩, h4⟩, h5⟩, h6⟩, h7⟩, h8⟩, h9⟩, h10⟩ := h
 refine ⟨h1, h2, h3, h4, h5, h6, h7, h8, fun x hx => ?_⟩
 rcases Nat.lt_or_ge x ops.size with hlt | hge
 ·have := h10 x (List.mem_range.2 hlt)
  rw [hx] at this
  simpa using this
 ·rw [← h9] at hge
  simp [Array.getD, Nat.not_lt.2 hge] at hx

theorem lexTkB (i : Nat) (R : Array Bool) {oi : Oper} {v : Value} {fuel : Nat} {listed : Array Bool} {a : Act} {w : World} (hi : ops.toList[i]? = some oi)
  (hS : T w) (h : wpAnyB P md ops Q T k fuel (listed.setIfInBounds i true) (a.put oi.dst v) w) (hB : takeB md ops listed R i k = true) (hQ : ∀ c a w, Q (.panic c) (a.put oi.dst v) w → Q (.panic c) a w)
  (hw : Region.wanted oi (yielded ops a.tmps) = true) (hy : ∀ w, T w → (execOp a.eval oi).run P w = .ok (.value v) w) : wpAnyB P md ops Q T k (fuel + 1) listed a w := by
 obtain ⟨h1, h2, h3, h4, h5, h6, h7, h8, h9⟩ := takeB_spec hB
 have hi' : ops[i]? = some oi := by simpa using hi
 exact wpAnyB_first hi' (Region.noSelect_spec h1) hQ h4 h5 h6 h7 fuel listed a w (Region.free_spec hi' h2) h9 h8 (by simpa using h3) (Or.inl ⟨hw, hy⟩) hS h

/-- The one that may come up, ahead of the barrier. -/
theorem lexHvB (i : Nat) {o : Oper} {fuel : Nat} {listed : Array Bool} {a : Act} {w : World} (hi : ops.toList[i]? = some o)
  (h : ∀ K' : Act → World → Prop, Shut (∀ a w, T w → (T w → wpAnyB P md ops Q T k fuel (listed.setIfInBounds i true) a w) → K' a w) → if Region.wanted o (yielded ops a.tmps) = true then Oper.wp P o a w K' Q else K' (a.put o.dst undef) w)
  (hr : Region.ready md ops listed = [i]) : wpAnyB P md ops Q T k (fuel + 1) listed a w :=
 ⟨fun h0 => (by rw [hr] at h0; cases h0), fun j hj => by
  rw [hr] at hj
  obtain rfl : j = i := by simpa using hj
  exact wpOp_step (by simpa using hi) (fun K' hK => h K' (fun a w hS hW => hK a w ⟨fun _ => hS, hW hS⟩))⟩

theorem wpAnyB_firstF {i : Nat} {oi : Oper} {v : Value} (hi : ops[i]? = some oi) (hsel : ∀ (j : Nat) (o : Oper) cs b, ops[j]? = some o → o.op ≠ .select cs b)
  (hQ : ∀ c a w, Q (.panic c) (a.put oi.dst v) w → Q (.panic c) a w) (hik : i ≠ k) :
  ∀ (fuel : Nat) (listed : Array Bool) (a : Act) (w : World),
   (∀ j oj, ops[j]? = some oj → j ≠ i → listed.getD j true = false → (∀ e ∈ oj.after, Region.binds md e = true → e.on ≠ i) → oi.apart ops oj = true) →
   i ∈ Region.ready md ops listed → YieldsIf P ops (fun _ => True) oi v a → (listed.getD k true = false → T w) →
   wpAnyB P md ops Q T k fuel (listed.setIfInBounds i true) (a.put oi.dst v) w → wpAnyB P md ops Q T k (fuel + 1) listed a w := by
 intro fuel
 induction fuel with
 | zero =>
  intro listed a w _ hr hy hS H
  refine ⟨fun h => (by rw [h] at hr; cases hr), fun j hj => ?_⟩
  by_cases hji : j = i
  ·subst hji; exact hy.wpOp hi trivial ⟨fun h => hS (by rwa [getD_set_ne true hik] at h), H⟩
  ·have := ready_mono hj hji
   rw [H.1] at this
   cases this
 | succ fuel ih =>
  intro listed a w hfree hr hy hS H
  refine ⟨fun h => (by rw [h] at hr; cases hr), fun j hj => ?_⟩
  by_cases hji : j = i
  ·subst hji; exact hy.wpOp hi trivial ⟨fun h => hS (by rwa [getD_set_ne true hik] at h), H⟩
  ·have h1 := H.2 j (ready_mono hj hji)
   obtain ⟨hjun, oj, hoj, hall⟩ := mem_ready.1 hj
   have hnot : ∀ e ∈ oj.after, Region.binds md e = true → e.on ≠ i := fun e he hb heq => by
    have h1 := hall e he hb
    have h0 := (mem_ready.1 hr).1
    rw [heq] at h1
    rcases Nat.lt_or_ge i listed.size with h' | h'
    ·simp [h'] at h0 h1; rw [h0] at h1; cases h1
    ·simp [Array.getElem?_eq_none h'] at h1
   have h2 := wpOp_putIf hoj (hfree j oj hoj hji hjun hnot) (fun cs b => hsel i oi cs b hi) (fun cs b => hsel j oj cs b hoj) hQ hy h1
   have hfree' : ∀ k ok, ops[k]? = some ok → k ≠ i → (listed.setIfInBounds j true).getD k true = false →
     (∀ e ∈ ok.after, Region.binds md e = true → e.on ≠ i) → oi.apart ops ok = true := fun k ok hk hki hun hno => by
    refine hfree k ok hk hki ?_ hno
    by_cases hjk : j = k
    ·subst hjk; exact hjun
    ·rw [getD_set_ne true hjk] at hun; exact hun
   have hsw : (listed.setIfInBounds j true).getD k true = ((listed.setIfInBounds i true).setIfInBounds j true).getD k true := by
    rw [Array.setIfInBounds_comm _ _ (Ne.symm hji), getD_set_ne true hik]
   refine wpOp_mono (fun a' w' h3 => ⟨fun h => h3.2.1 (hsw ▸ h), ih (listed.setIfInBounds j true) a' w' hfree' (ready_mono hr (Ne.symm hji)) h3.1 (fun h => h3.2.1 (hsw ▸ h)) ?_⟩) h2
   rw [Array.setIfInBounds_comm _ _ hji]
   exact h3.2.2

/-- An operation that reads no memory may be taken first, whatever the barrier. -/
theorem lexTkF (i : Nat) {oi : Oper} {v : Value} {fuel : Nat} {listed : Array Bool} {a : Act} {w : World} (hi : ops.toList[i]? = some oi)
  (hS : T w) (h : wpAnyB P md ops Q T k fuel (listed.setIfInBounds i true) (a.put oi.dst v) w) (hB : (Region.noSelect ops && Region.free md ops listed i && (Region.ready md ops listed).contains i && i != k) = true) (hQ : ∀ c a w, Q (.panic c) (a.put oi.dst v) w → Q (.panic c) a w)
  (hw : Region.wanted oi (yielded ops a.tmps) = true) (hy : ∀ w, True → (execOp a.eval oi).run P w = .ok (.value v) w) : wpAnyB P md ops Q T k (fuel + 1) listed a w := by
 simp only [Bool.and_eq_true, bne_iff_ne, ne_eq] at hB
 have hi' : ops[i]? = some oi := by simpa using hi
 exact wpAnyB_firstF hi' (Region.noSelect_spec hB.1.1.1) hQ hB.2 fuel listed a w (Region.free_spec hi' hB.1.1.2) (by simpa using hB.1.2) (Or.inl ⟨hw, hy⟩) (fun _ => hS) h

theorem lTB (i : Nat) (R : Array Bool) {oi : Oper} {v : Value} {fuel : Nat} {listed : Array Bool} {a a' : Act} {w : World} (hi : ops.toList[i]? = some oi)
  (hS : T w) (h : wpAnyB P md ops Q T k fuel (listed.setIfInBounds i true) a' w) (hw : Region.wanted oi (yielded ops a.tmps) = true := by rfl) (hy : ∀ w, T w → (execOp a.eval oi).run P w = .ok (.value v) w := by (intro w hSw; (try dsimp only at hSw); first | (go_simp; done) | (go_simp; with_reducible rfl)))
  (ha : a.put oi.dst v = a' := by ((try simp only [Act.put, List.setIfInBounds_toArray, List.set_cons_zero, List.set_cons_succ]); exact rfl)) (hB : takeB md ops listed R i k = true := by kernel_rfl) (hQ : ∀ c a w, Q (.panic c) (a.put oi.dst v) w → Q (.panic c) a w := by exact fun _ _ _ h => h) : wpAnyB P md ops Q T k (fuel + 1) listed a w :=
 lexTkB i R hi hS (ha ▸ h) hB hQ hw hy

theorem lTF (i : Nat) {oi : Oper} {v : Value} {fuel : Nat} {listed : Array Bool} {a a' : Act} {w : World} (hi : ops.toList[i]? = some oi)
  (hS : T w) (h : wpAnyB P md ops Q T k fuel (listed.setIfInBounds i true) a' w) (hw : Region.wanted oi (yielded ops a.tmps) = true := by rfl) (hy : ∀ w, True → (execOp a.eval oi).run P w = .ok (.value v) w := by (intro w hSw; (try dsimp only at hSw); first | (go_simp; done) | (go_simp; with_reducible rfl)))
  (ha : a.put oi.dst v = a' := by ((try simp only [Act.put, List.setIfInBounds_toArray, List.set_cons_zero, List.set_cons_succ]); exact rfl)) (hB : (Region.noSelect ops && Region.free md ops listed i && (Region.ready md ops listed).contains i && i != k) = true := by kernel_rfl) (hQ : ∀ c a w, Q (.panic c) (a.put oi.dst v) w → Q (.panic c) a w := by exact fun _ _ _ h => h) : wpAnyB P md ops Q T k (fuel + 1) listed a w :=
 lexTkF i hi hS (ha ▸ h) hB hQ hw hy

/-- The one that may come up: the barrier, or what is behind it. -/
theorem lexHvE (i : Nat) {o : Oper} {fuel : Nat} {listed : Array Bool} {a : Act} {w : World} (hi : ops.toList[i]? = some o)
  (h : ∀ K' : Act → World → Prop, Shut (∀ a w, wpAnyB P md ops Q T k fuel (listed.setIfInBounds i true) a w → K' a w) → if Region.wanted o (yielded ops a.tmps) = true then Oper.wp P o a w K' Q else K' (a.put o.dst undef) w)
  (hr : Region.ready md ops listed = [i]) (hk : (listed.setIfInBounds i true).getD k true = true) : wpAnyB P md ops Q T k (fuel + 1) listed a w :=
 ⟨fun h0 => (by rw [hr] at h0; cases h0), fun j hj => by
  rw [hr] at hj
  obtain rfl : j = i := by simpa using hj
  exact wpOp_step (by simpa using hi) (fun K' hK => h K' (fun a w hW => hK a w ⟨fun e => (by rw [hk] at e; cases e), hW⟩))⟩

theorem wpAnyB_done {listed : Array Bool} {a : Act} {w : World} (hr : Region.ready md ops listed = []) (h : Q .normal a w) :
  ∀ fuel, wpAnyB P md ops Q T k fuel listed a w
 | 0 => ⟨hr, h⟩
 | _ + 1 => ⟨fun _ => h, by rw [hr]; simp⟩

theorem wp_region_B (k : Nat) {id : Nat} {a : Act} {w : World} (hm : P.follows .mixedOrders = true) (hS : T w.drew)
  (h : T w.drew → wpAnyB P .any ops Q T k ops.size (Array.replicate ops.size false) a w.drew) : (Code.region id ops true).wp P Q a w :=
 wp_region_any hm (wpAny_of_B _ _ _ _ (h hS))
end
end Go.Proofs.YtgobbecpnjelmaaGreat

namespace Go.Proofs.YtgobbecpnjelmaaGreat
open Go.RowKit

theorem RdTo.rd {w w' : World} {R : Nat} {v : Value} {l : List Int} {a : Nat} {e : Int} (h : RdTo w R v l w' a e) : Rd w' R v l a e := h.1

set_option maxRecDepth 100000 in
set_option maxHeartbeats 4000000 in
theorem checkedS_any {w : World} {R : Nat} {v : Value} {l : List Int} {a : Nat} {e0 : Int} (h : Rd w R v l a e0) (p q : Int) (B : Bool) (hr : ∀ W, Calls Tryz.prog 121 #[.agg #[.int .i64 p, .int .i64 q]] W fun e w' => e = .returned (.bool B) ∧ Below W.heap.size W w') :
  Calls Tryz.prog 134 #[.pointer (some ⟨R, 0, none⟩), .agg #[.int .i64 p, .int .i64 q], .func (.func 121) #[] #[]] w fun e w' => e = .returned (if finE e0 B = 0 then .agg #[.int .i64 p, .int .i64 q] else .agg #[.int .i64 0, .int .i64 0]) ∧ RdTo w R v l w' a (finE e0 B) := by
 have H := hH h
 have hR := h.lt
 have HR := hH hr
 clear h hr
 by_cases he : e0 = 0
 ·subst he
  cases B with
  | true =>
   rw [show finE 0 true = 0 from rfl, if_pos rfl]
   go_enter Tryz.func134, Tryz.ntmps134
   go_wp2_with fail
   refine (err_any (H.out.below bw)).mono ?_
   rintro e w1 ⟨rfl, rfl⟩
   go_wp2_with fail
   (with_reducible refine (HR.out _).mono ?_); rintro e w1 ⟨rfl, b1⟩; have s1 : w.heap.size + 1 + 1 + 1 ≤ w1.heap.size := sz b1; have B1 := hJ w b1; obtain ⟨c1_0, c1_1⟩ := k2 (w.heap.size) (.int .i64 p) (.int .i64 q) b1 aJ; obtain ⟨c1_2, f1_2, c1_3, f1_3⟩ := k2f (w.heap.size + 1) (.int .i64 0) (.int .i64 0) b1 aJ; obtain ⟨l1_0, n1_0, m1_0⟩ := lnm (show w.heap.size < w1.heap.size by omega); obtain ⟨l1_1, n1_1, m1_1⟩ := lnm (show w.heap.size + 1 < w1.heap.size by omega); clear b1
   go_wp2_with fail
   refine (err_any (H.out.below (show Below w.heap.size w _ from bx B1.out))).mono ?_
   rintro e w2 ⟨rfl, rfl⟩
   go_wp2_with fail
   exact bodyPost_ret (v := .agg #[.int .i64 p, .int .i64 q]) (by simp [results, Tryz.results134, go_sem, *]) rfl ⟨rfl, RdTo.belowB H.out (RdTo.refl H.out) (bx B1.out)⟩
  | false =>
   rw [show finE 0 false = 211 from rfl, if_neg (by decide)]
   go_enter Tryz.func134, Tryz.ntmps134
   go_wp2_with fail
   refine (err_any (H.out.below bw)).mono ?_
   rintro e w1 ⟨rfl, rfl⟩
   go_wp2_with fail
   (with_reducible refine (HR.out _).mono ?_); rintro e w1 ⟨rfl, b1⟩; have s1 : w.heap.size + 1 + 1 + 1 ≤ w1.heap.size := sz b1; have B1 := hJ w b1; obtain ⟨c1_0, c1_1⟩ := k2 (w.heap.size + 2) (.int .i64 0) (.int .i64 0) b1 aJ; obtain ⟨c1_2, f1_2, c1_3, f1_3⟩ := k2f (w.heap.size + 1) (.int .i64 0) (.int .i64 0) b1 aJ; obtain ⟨l1_0, n1_0, m1_0⟩ := lnm (show w.heap.size + 2 < w1.heap.size by omega); obtain ⟨l1_1, n1_1, m1_1⟩ := lnm (show w.heap.size + 1 < w1.heap.size by omega); clear b1
   go_wp2_with fail
   refine (fail_any (H.out.below (show Below w.heap.size w _ from bx B1.out)) 211).mono ?_
   rintro e w2 ⟨rfl, hr2⟩
   rw [show failE 0 211 = 211 from rfl] at hr2
   have hg := hr2.2
   have HR2 := hH (RdTo.from (w := w) (show Below w.heap.size w _ from bx B1.out) hr2)
   have hsz : w1.heap.size ≤ w2.heap.size := hg.size
   have z0 := (only_cell hg (w.heap.size + 2) 0 (by omega) (by omega)).trans c1_0
   have z1 := (only_cell hg (w.heap.size + 2) 1 (by omega) (by omega)).trans c1_1
   have y0 := (only_cell hg (w.heap.size + 1) 0 (by omega) (by omega)).trans c1_2
   have x0 := (only_frozen hg (w.heap.size + 1) 0 (by omega) (by omega)).trans f1_2
   have y1 := (only_cell hg (w.heap.size + 1) 1 (by omega) (by omega)).trans c1_3
   have x1 := (only_frozen hg (w.heap.size + 1) 1 (by omega) (by omega)).trans f1_3
   clear hr2 hg
   go_wp2_with fail
   refine (err_any HR2.out.1).mono ?_
   rintro e w3 ⟨rfl, rfl⟩
   go_wp2_with fail
   exact bodyPost_ret (v := .agg #[.int .i64 0, .int .i64 0]) (by simp [results, Tryz.results134, go_sem, *]) rfl ⟨rfl, RdTo.belowB H.out HR2.out bw⟩
 ·have j1 : (e0 == 0) = false := by simpa using he
  have j2 : (e0 != 0) = true := by simpa using he
  have e1 : finE e0 B = e0 := if_neg he
  rw [e1, if_neg he]
  clear e1 he
  go_enter Tryz.func134, Tryz.ntmps134
  go_wp2_with fail
  refine (err_any (H.out.below bw)).mono ?_
  rintro e w1 ⟨rfl, rfl⟩
  go_wp2_with fail
  refine (err_any (H.out.below bw)).mono ?_
  rintro e w2 ⟨rfl, rfl⟩
  go_wp2_with fail
  exact bodyPost_ret (v := .agg #[.int .i64 0, .int .i64 0]) (by simp [results, Tryz.results134, go_sem, *]) rfl ⟨rfl, RdTo.belowB H.out (RdTo.refl H.out) bw⟩

set_option maxRecDepth 100000 in
set_option maxHeartbeats 4000000 in
theorem getScore_any {w : World} {R : Nat} {v : Value} {l : List Int} {a : Nat} {e0 : Int} (h : Rd w R v l a e0) (hb : AllB l) (ha : a ≤ l.length) (hl : l.length ≤ 100000) :
  Calls Tryz.prog 105 #[.pointer (some ⟨R, 0, none⟩)] w fun e w' => e = .returned (.agg #[.int .i64 (getSV l a e0).1, .int .i64 (getSV l a e0).2]) ∧ RdTo w R v l w' (gS l a e0).2.1 (getSE l a e0) := by
 have H := hH h
 have hR := h.lt
 have h1 := fun W (hW : Rd W R v l a e0) => readN_all hW hb ha hl 274877906944 (by decide)
 have ha1 := rdN'_le hb ha e0 274877906944
 have h2 := fun W (hW : Rd W R v l (rdN' l a e0 274877906944).2.1 (rdN' l a e0 274877906944).2.2) => readN_all hW hb ha1 hl 1099511627776 (by decide)
 have hgs : gS l a e0 = ((((rdN' l a e0 274877906944).1 : Int), ((rdN' l (rdN' l a e0 274877906944).2.1 (rdN' l a e0 274877906944).2.2 1099511627776).1 : Int)), (rdN' l (rdN' l a e0 274877906944).2.1 (rdN' l a e0 274877906944).2.2 1099511627776).2) := rfl
 have hse : getSE l a e0 = finE (gS l a e0).2.2 (scoreB (gS l a e0).1) := rfl
 have hsv : getSV l a e0 = if finE (gS l a e0).2.2 (scoreB (gS l a e0).1) = 0 then (gS l a e0).1 else (0, 0) := rfl
 rw [hgs] at hse hsv
 rw [hgs, hse, hsv]
 clear ha1 hgs hse hsv h
 generalize rdN' l a e0 274877906944 = r1 at *
 obtain ⟨p, a1, e1⟩ := r1
 dsimp only at h1 h2 ⊢
 generalize rdN' l a1 e1 1099511627776 = r2 at *
 obtain ⟨q, a2, e2⟩ := r2
 dsimp only at h1 h2 ⊢
 have H1 := hH h1
 have H2 := hH h2
 have H3 := hH (fun W (hW : Rd W R v l a2 e2) => checkedS_any hW (p : Int) (q : Int) _ (fun W => sis_any (p : Int) (q : Int) W))
 clear h1 h2 hb ha hl
 generalize scoreB ((p : Int), (q : Int)) = B at *
 generalize finE e2 B = E at *
 have hif : (if E = 0 then (((p : Int), (q : Int)) : Int × Int) else (0, 0)) = ((if E = 0 then (p : Int) else 0), (if E = 0 then (q : Int) else 0)) := by split <;> rfl
 have hif2 : (if E = 0 then (Value.agg #[.int .i64 (p : Int), .int .i64 (q : Int)]) else .agg #[.int .i64 0, .int .i64 0]) = .agg #[.int .i64 (if E = 0 then (p : Int) else 0), .int .i64 (if E = 0 then (q : Int) else 0)] := by split <;> rfl
 rw [hif]
 rw [hif2] at H3
 clear hif hif2
 dsimp only
 generalize (if E = 0 then (p : Int) else 0) = X at *
 generalize (if E = 0 then (q : Int) else 0) = Y at *
 go_enter Tryz.func105, Tryz.ntmps105
 go_wp2_with fail
 (with_reducible refine (H1.out _ (H.out.below bw)).mono ?_)
 rintro e w1 ⟨rfl, r1⟩
 have hg1 := r1.2
 have T1 := hH (RdTo.from (w := w) (show Below w.heap.size w _ from bw) r1)
 have z1 := hg1.size
 have zz1 := T1.out.2.size
 have c1_0 : w1.cell? ⟨w.heap.size, 0, none⟩ = some (.int .i64 0) := (only_cell hg1 (w.heap.size) 0 mJ (by omega)).trans (by go_simp)
 have f1_0 : w1.frozen? ⟨w.heap.size, 0, none⟩ = false := (only_frozen hg1 (w.heap.size) 0 mJ (by omega)).trans (by go_simp)
 have c1_1 : w1.cell? ⟨w.heap.size, 1, none⟩ = some (.int .i64 0) := (only_cell hg1 (w.heap.size) 1 mJ (by omega)).trans (by go_simp)
 have f1_1 : w1.frozen? ⟨w.heap.size, 1, none⟩ = false := (only_frozen hg1 (w.heap.size) 1 mJ (by omega)).trans (by go_simp)
 have hl1 : w.heap.size < w1.heap.size := by first | omega | (simp at z1; omega)
 clear r1 hg1
 go_wp2_with fail
 (with_reducible refine (H2.out _ T1.out.rd).mono ?_)
 rintro e w2 ⟨rfl, r2⟩
 have hg2 := r2.2
 have T2 := hH (RdTo.trans (RdTo.belowB H.out T1.out bw) r2)
 have z2 := hg2.size
 have zz2 := T2.out.2.size
 have c2_0 : w2.cell? ⟨w.heap.size, 0, none⟩ = some (.int .i64 0) := (only_cell hg2 (w.heap.size) 0 mJ (by omega)).trans (by go_simp)
 have f2_0 : w2.frozen? ⟨w.heap.size, 0, none⟩ = false := (only_frozen hg2 (w.heap.size) 0 mJ (by omega)).trans (by go_simp)
 have c2_1 : w2.cell? ⟨w.heap.size, 1, none⟩ = some (.int .i64 0) := (only_cell hg2 (w.heap.size) 1 mJ (by omega)).trans (by go_simp)
 have f2_1 : w2.frozen? ⟨w.heap.size, 1, none⟩ = false := (only_frozen hg2 (w.heap.size) 1 mJ (by omega)).trans (by go_simp)
 have hl2 : w.heap.size < w2.heap.size := by first | omega | (simp at z2; omega)
 clear r2 hg2
 go_wp2_with fail
 (with_reducible refine (H3.out _ T2.out.rd).mono ?_)
 rintro e w3 ⟨rfl, r3⟩
 have hg3 := r3.2
 have T3 := hH (RdTo.trans (RdTo.belowB H.out T2.out bw) r3)
 have z3 := hg3.size
 have zz3 := T3.out.2.size
 have c3_0 : w3.cell? ⟨w.heap.size, 0, none⟩ = some (.int .i64 0) := (only_cell hg3 (w.heap.size) 0 mJ (by omega)).trans (by go_simp)
 have f3_0 : w3.frozen? ⟨w.heap.size, 0, none⟩ = false := (only_frozen hg3 (w.heap.size) 0 mJ (by omega)).trans (by go_simp)
 have c3_1 : w3.cell? ⟨w.heap.size, 1, none⟩ = some (.int .i64 0) := (only_cell hg3 (w.heap.size) 1 mJ (by omega)).trans (by go_simp)
 have f3_1 : w3.frozen? ⟨w.heap.size, 1, none⟩ = false := (only_frozen hg3 (w.heap.size) 1 mJ (by omega)).trans (by go_simp)
 have hl3 : w.heap.size < w3.heap.size := by first | omega | (simp at z3; omega)
 clear r3 hg3
 go_wp2_with fail
 exact bodyPost_ret (v := .agg #[.int .i64 X, .int .i64 Y]) (by simp [results, Tryz.results105, go_sem, *]) rfl ⟨rfl, RdTo.belowB H.out T3.out bw⟩

end Go.Proofs.YtgobbecpnjelmaaGreat

namespace Go.Proofs.YtgobbecpnjelmaaGreat
open Go.RowKit

/-- A seen event is right. -/
def seenB (id : Int) (x : List Int) (P Q : Int) (s : Bool) (dim : Int) : Bool := decide (1 ≤ id ∧ id ≤ 1099511627776) && vecB x dim && (if s = true then scoreB (P, Q) else decide (P = 0 ∧ Q = 0))

set_option maxRecDepth 100000 in
set_option maxHeartbeats 8000000 in
theorem rightSeen_any (id P Q dim : Int) (s : Bool) (vx : Value) (x : List Int) (w : World) (h : Ints .i64 w vx x) :
  Calls Tryz.prog 75 #[.agg #[.int .i64 id, vx, .int .i64 P, .int .i64 Q, .bool s], .int .i64 dim] w fun e w' => e = .returned (.bool (seenB id x P Q s dim)) ∧ Below w.heap.size w w' := by
 have HX := hH h
 obtain ⟨xa, xc, rfl⟩ := h.shape
 have HV := hH (fun W (hW : Ints .i64 W (.slice xa x.length xc) x) => vis_any _ x dim W hW)
 have HS := hH (fun W => sis_any P Q W)
 have HR := hH (show seenB id x P Q s dim = (decide (1 ≤ id ∧ id ≤ 1099511627776) && vecB x dim && (if s = true then scoreB (P, Q) else decide (P = 0 ∧ Q = 0))) from rfl)
 generalize seenB id x P Q s dim = R at *
 clear h
 by_cases hid : 1 ≤ id ∧ id ≤ 1099511627776
 ·rw [decide_eq_true hid] at HR
  obtain ⟨i1, i2⟩ := hid
  generalize vecB x dim = V at *
  cases V with
  | false =>
   have HR2 := hH (show R = false by rw [HR.out]; rfl)
   clear HR
   go_enter Tryz.func75, Tryz.ntmps75
   go_wp2_with fail
   (with_reducible refine (HV.out _ (HX.out.below bw)).mono ?_)
   rintro e w1 ⟨rfl, rfl⟩
   go_wp2_with fail
   go_ret
   exact ⟨ret_bool HR2.out.symm, bw⟩
  | true =>
   cases s with
   | true =>
    have HR2 := hH (show R = scoreB (P, Q) by rw [HR.out]; rfl)
    clear HR
    generalize scoreB (P, Q) = B at *
    cases B with
    | true =>
     go_enter Tryz.func75, Tryz.ntmps75
     go_wp2_with fail
     (with_reducible refine (HV.out _ (HX.out.below bw)).mono ?_)
     rintro e w1 ⟨rfl, rfl⟩
     go_wp2_with fail
     (with_reducible refine (HS.out _).mono ?_); rintro e w2 ⟨rfl, b2⟩; have s2 : w.heap.size + 1 ≤ w2.heap.size := sz b2; have B2 := hJ w b2; obtain ⟨c2_0, c2_1, c2_2, c2_3, c2_4⟩ := k5 (w.heap.size) (.int .i64 id) (.slice xa x.length xc) (.int .i64 P) (.int .i64 Q) (.bool true) b2 aJ; obtain ⟨l2_0, n2_0, m2_0⟩ := lnm (show w.heap.size < w2.heap.size by omega); clear b2
     go_wp2_with fail
     go_ret
     exact ⟨ret_bool HR2.out.symm, B2.out⟩
    | false =>
     go_enter Tryz.func75, Tryz.ntmps75
     go_wp2_with fail
     (with_reducible refine (HV.out _ (HX.out.below bw)).mono ?_)
     rintro e w1 ⟨rfl, rfl⟩
     go_wp2_with fail
     (with_reducible refine (HS.out _).mono ?_); rintro e w2 ⟨rfl, b2⟩; have s2 : w.heap.size + 1 ≤ w2.heap.size := sz b2; have B2 := hJ w b2; obtain ⟨c2_0, c2_1, c2_2, c2_3, c2_4⟩ := k5 (w.heap.size) (.int .i64 id) (.slice xa x.length xc) (.int .i64 P) (.int .i64 Q) (.bool true) b2 aJ; obtain ⟨l2_0, n2_0, m2_0⟩ := lnm (show w.heap.size < w2.heap.size by omega); clear b2
     go_wp2_with fail
     go_ret
     exact ⟨ret_bool HR2.out.symm, B2.out⟩
   | false =>
    have HR2 := hH (show R = decide (P = 0 ∧ Q = 0) by rw [HR.out]; rfl)
    clear HR
    go_enter Tryz.func75, Tryz.ntmps75
    go_wp2_with fail
    (with_reducible refine (HV.out _ (HX.out.below bw)).mono ?_)
    rintro e w1 ⟨rfl, rfl⟩
    go_wp2_with fail
    all_goals
     go_ret
     refine ⟨ret_bool ?_, bw⟩
     rw [HR2.out]
     first | rfl | (simp [*]; done)
 ·have HR2 := hH (show R = false by rw [HR.out, decide_eq_false hid]; rfl)
  clear HR
  have hid2 : id < 1 ∨ 1099511627776 < id := by omega
  clear hid
  rcases hid2 with h1 | h1
  ·go_enter Tryz.func75, Tryz.ntmps75
   go_wp2_with fail
   go_ret
   exact ⟨ret_bool HR2.out.symm, bw⟩
  ·have h2 : ¬ id < 1 := by omega
   go_enter Tryz.func75, Tryz.ntmps75
   go_wp2_with fail
   go_ret
   exact ⟨ret_bool HR2.out.symm, bw⟩
end Go.Proofs.YtgobbecpnjelmaaGreat

namespace Go.Proofs.YtgobbecpnjelmaaGreat
open Go.RowKit

end Go.Proofs.YtgobbecpnjelmaaGreat

namespace Go.Proofs.YtgobbecpnjelmaaGreat
open Go.RowKit

/-- What stands behind a forced head: a walk that only reads. -/
inductive CalmNext (P : Program) (ops : Array Oper) (Q : Exit → Act → World → Prop) (l : List Oper) : Exit → Act → World → Prop
 | normal {a : Act} {w : World} : wpQuiet P ops (fun w' => ∃ n, w' = w.drewN n) (fun a' => ∀ w', (∃ n, w' = w.drewN n) → Q .normal a' w') l a → CalmNext P ops Q l .normal a w
 | other {e : Exit} {a : Act} {w : World} : e ≠ .normal → Q e a w → CalmNext P ops Q l e a w

theorem wpAny_of_head_calm {P : Program} {md : Region.Mode} {ops : Array Oper} {Q : Exit → Act → World → Prop} {rest : List Oper} (hs : Region.noSelect ops = true) (m : Nat) (hrest : ∀ j, rest[j]? = ops[m + j]?) :
  ∀ (l : List Oper) (k : Nat) (listed : Array Bool) (a : Act) (w : World), k + l.length = m → (∀ j, j < l.length → l[j]? = ops[k + j]?) → headB md ops l.length k listed = true →
   Region.lexFrom md ops rest.length m (markB l.length k listed) = true → wpList P ops (CalmNext P ops Q rest) l a w → wpAny P md ops Q (l.length + rest.length) listed a w
 | [], k, listed, a, w, hk, _, _, hlex, h => by
  rw [List.length_nil, Nat.zero_add]
  refine wpAny_of_quiet (C := fun w' => ∃ n, w' = w.drewN n) (Q := fun a' => ∀ w', (∃ n, w' = w.drewN n) → Q .normal a' w') (fun _ w' hw' h => h w' hw') _ _ _ _ ⟨0, rfl⟩ ?_
  have h' : CalmNext P ops Q rest .normal a w := h
  cases h' with
  | normal h' => exact wpAnyQ_lex hs rest m listed a hrest hlex h'
  | other hne _ => exact absurd rfl hne
 | o :: l, k, listed, a, w, hk, hl, hB, hlex, h => by
  have h0 : ops[k]? = some o := by have := hl 0 (by simp); simpa using this.symm
  simp only [List.length_cons, headB, Bool.and_eq_true, decide_eq_true_eq] at hB
  rw [List.length_cons, show l.length + 1 + rest.length = l.length + rest.length + 1 by omega]
  refine ⟨fun h1 => (by rw [hB.1] at h1; cases h1), fun i hi => ?_⟩
  rw [hB.1] at hi
  obtain rfl : i = k := by simpa using hi
  have hq : ∀ e a w, e ≠ .normal → CalmNext P ops Q rest e a w → Q e a w := fun e a w he hh => by
   cases hh with
   | normal _ => exact absurd rfl he
   | other _ h => exact h
  have hw : wpOp P ops Q i (wpList P ops (CalmNext P ops Q rest) l) a w := by
   unfold wpList at h
   unfold wpOp
   simp only [h0]
   split
   ·rename_i hwant
    rw [if_pos hwant] at h
    rcases h with h | ⟨h1, a', w', h2⟩
    ·exact .inl (wp_q hq h)
    ·exact .inr ⟨h1, a', w', hq _ _ _ (by simp) h2⟩
   ·rename_i hwant
    rw [if_neg hwant] at h
    exact h
  exact wpOp_mono (fun a' w' h' => wpAny_of_head_calm hs m hrest l (i + 1) _ a' w' (by simp at hk; omega) (fun j hj => by have := hl (j + 1) (by simp; omega); simpa [Nat.add_assoc, Nat.add_comm 1 j] using this) hB.2 hlex h') hw

/-- The same behind three operations that look at no memory (a value, an index, an address). -/
theorem wp_region_free_head_quiet {P : Program} {id : Nat} {Q : Exit → Act → World → Prop} {a : Act} {w : World} {o0 o1 o2 : Oper} {l : List Oper} (v0 v1 v2 : Value) (n : Nat) (hm : P.follows .mixedOrders = true)
  (hs : Region.noSelect (o0 :: o1 :: o2 :: l).toArray = true)
  (hf0 : (Region.free .any (o0 :: o1 :: o2 :: l).toArray (Array.replicate (l.length + 3) false) 0 && (Region.ready .any (o0 :: o1 :: o2 :: l).toArray (Array.replicate (l.length + 3) false)).contains 0) = true)
  (hf1 : (Region.free .any (o0 :: o1 :: o2 :: l).toArray ((Array.replicate (l.length + 3) false).setIfInBounds 0 true) 1 && (Region.ready .any (o0 :: o1 :: o2 :: l).toArray ((Array.replicate (l.length + 3) false).setIfInBounds 0 true)).contains 1) = true)
  (hf2 : (Region.free .any (o0 :: o1 :: o2 :: l).toArray (((Array.replicate (l.length + 3) false).setIfInBounds 0 true).setIfInBounds 1 true) 2 && (Region.ready .any (o0 :: o1 :: o2 :: l).toArray (((Array.replicate (l.length + 3) false).setIfInBounds 0 true).setIfInBounds 1 true)).contains 2) = true)
  (hn : n ≤ l.length)
  (hB : (headB .any (o0 :: o1 :: o2 :: l).toArray n 3 ((((Array.replicate (l.length + 3) false).setIfInBounds 0 true).setIfInBounds 1 true).setIfInBounds 2 true) &&
   Region.lexFrom .any (o0 :: o1 :: o2 :: l).toArray (l.length - n) (3 + n) (markB n 3 ((((Array.replicate (l.length + 3) false).setIfInBounds 0 true).setIfInBounds 1 true).setIfInBounds 2 true))) = true)
  (hQ0 : ∀ c a w, Q (.panic c) (a.put o0.dst v0) w → Q (.panic c) a w) (hQ1 : ∀ c a w, Q (.panic c) (a.put o1.dst v1) w → Q (.panic c) a w) (hQ2 : ∀ c a w, Q (.panic c) (a.put o2.dst v2) w → Q (.panic c) a w)
  (hy0 : Yields P (o0 :: o1 :: o2 :: l).toArray o0 v0 a) (hy1 : Yields P (o0 :: o1 :: o2 :: l).toArray o1 v1 (a.put o0.dst v0)) (hy2 : Yields P (o0 :: o1 :: o2 :: l).toArray o2 v2 ((a.put o0.dst v0).put o1.dst v1))
  (h : wpList P (o0 :: o1 :: o2 :: l).toArray (CalmNext P (o0 :: o1 :: o2 :: l).toArray Q (l.drop n)) (l.take n) (((a.put o0.dst v0).put o1.dst v1).put o2.dst v2) w.drew) : (Code.region id (o0 :: o1 :: o2 :: l).toArray true).wp P Q a w := by
 simp only [Bool.and_eq_true] at hf0 hf1 hf2 hB
 refine wp_region_any hm ?_
 rw [show (o0 :: o1 :: o2 :: l).toArray.size = l.length + 3 by simp]
 refine wpAny_take (i := 0) (v := v0) rfl hs hf0.1 hf0.2 hQ0 hy0 ?_
 refine wpAny_take (i := 1) (v := v1) rfl hs hf1.1 hf1.2 hQ1 hy1 ?_
 refine wpAny_take (i := 2) (v := v2) rfl hs hf2.1 hf2.2 hQ2 hy2 ?_
 have e1 : (l.take n).length = n := by simp; omega
 have e2 : (l.drop n).length = l.length - n := by simp
 have := wpAny_of_head_calm (P := P) (md := .any) (ops := (o0 :: o1 :: o2 :: l).toArray) (Q := Q) (rest := l.drop n) hs (3 + n) (fun j => by rw [List.getElem?_drop]; simp [show 3 + n + j = n + j + 1 + 1 + 1 by omega]) (l.take n) 3 _ _ w.drew (by rw [e1])
  (fun j hj => by rw [e1] at hj; simp [hj, show 3 + j = j + 1 + 1 + 1 by omega]) (by rw [e1]; exact hB.1) (by rw [e1, e2]; exact hB.2) h
 rw [e1, e2, show n + (l.length - n) = l.length by omega] at this
 exact this
end Go.Proofs.YtgobbecpnjelmaaGreat

namespace Go.Proofs.YtgobbecpnjelmaaGreat
open Go.RowKit

theorem bitLen_is2 {m k : Nat} (h : m < 2 ^ k) (h' : k = 0 ∨ 2 ^ (k - 1) ≤ m) (hm : m < 2 ^ 64) : Lib.bitLen m = k := by
 rcases Nat.eq_zero_or_pos m with h0 | h0
 ·subst h0
  have : Lib.bitLen 0 = 0 := Lib.bitLenAux_zero 64
  rcases h' with h' | h'
  ·omega
  ·have := Nat.two_pow_pos (k - 1); omega
 ·obtain ⟨h1, h2, h3⟩ := Lib.bitLenAux_bounds 64 m hm (by omega)
  show Lib.bitLenAux 64 m = k
  generalize Lib.bitLenAux 64 m = j at *
  rcases h' with h' | h'
  ·subst h'; omega
  ·rcases Nat.lt_trichotomy j k with h4 | h4 | h4
   ·have := Nat.pow_le_pow_right (show 0 < 2 by omega) (show j ≤ k - 1 by omega); omega
   ·exact h4
   ·have := Nat.pow_le_pow_right (show 0 < 2 by omega) (show k ≤ j - 1 by omega); omega

set_option maxRecDepth 100000 in
set_option maxHeartbeats 800000 in
theorem rlog2_any (n : Int) (w : World) (hn : Ok64 n) :
  Calls Tryz.prog 144 #[.int .i64 n] w fun e w' => e = .returned (.int .i64 (Lib.bitLen (n.toNat - 1))) ∧ w = w' := by
 have HN := hH hn
 unfold Ok64 at hn
 go_enter Tryz.func144, Tryz.ntmps144
 go_wp2
 go_loop [3, 4] (fun k p => ∃ (j q : Nat), k = .int .i64 j ∧ p = .int .i64 q ∧ q = 2 ^ j ∧ q ≤ 4611686018427387904 ∧ j ≤ 62 ∧ (j = 0 ∨ 2 ^ (j - 1) ≤ n.toNat - 1)) (fun k _ => 63 - (intOf k).toNat)
 case atStart => exact ⟨0, 1, rfl, rfl, rfl, by omega, by omega, .inl rfl⟩
 case round =>
  obtain ⟨j, q, rfl, rfl, hq, hq2, hj, hlow⟩ := hrel
  have HQ := hH hq; clear hq
  have HLOW := hH hlow; clear hlow
  by_cases hlt : (q : Int) < n
  ·by_cases h62 : j = 62
   ·subst h62
    have hq3 : (q : Int) = 4611686018427387904 := by have := HQ.out; omega
    have hneg : wrap64 ((q : Int) * 2) < 0 := by rw [hq3]; unfold wrap64; omega
    have HQ3 := hH hq3; clear hq3
    go_wp2
    go_ret
    refine ⟨ret_int ?_, rfl⟩
    rw [bitLen_is2 (k := 63) (m := n.toNat - 1) (by omega) (.inr (by have := HQ3.out; show 2 ^ 62 ≤ _; omega)) (by omega)]
    rfl
   ·have hq4 : (q : Int) ≤ 2305843009213693952 := by
     have : 2 ^ j ≤ 2 ^ 61 := Nat.pow_le_pow_right (by omega) (by omega)
     rw [← HQ.out] at this; omega
    go_wp2
    go_round
    case rel => exact ⟨j + 1, q * 2, by go_num, by go_num, by rw [HQ.out, Nat.pow_succ], by omega, by omega, .inr (by rw [Nat.add_sub_cancel, ← HQ.out]; omega)⟩
    case measure => simp [intOf]; omega
  ·go_wp2
   go_ret
   refine ⟨ret_int ?_, rfl⟩
   rw [bitLen_is2 (k := j) (m := n.toNat - 1) (by rw [← HQ.out]; have := Nat.two_pow_pos j; have := HQ.out; omega) HLOW.out (by omega)]
end Go.Proofs.YtgobbecpnjelmaaGreat

namespace Go.Proofs.YtgobbecpnjelmaaGreat
open Go.RowKit

end Go.Proofs.YtgobbecpnjelmaaGreat

namespace Go.Proofs.YtgobbecpnjelmaaGreat
open Go.RowKit

theorem ovw_all {cur : Array Value} {vs : List Value} (h : vs.length = cur.size) : ovw cur 0 vs = vs.toArray := by
 apply Array.ext_getElem?
 intro j
 rw [ovw_get _ _ _ _ (by omega), if_neg (by omega), Nat.zero_add, Nat.sub_zero]
 by_cases hj : j < vs.length
 ·rw [if_pos hj]; simp
 ·rw [if_neg hj, Array.getElem?_eq_none (by omega), Array.getElem?_eq_none (by simp; omega)]

section
variable {P : Program} {w : World} {b : Nat} {T : TypeId} {zs cells : Array Value}

theorem RowAt.range (h : RowAt w b T cells) : w.rangeAt b 0 cells.toList := fun j v hv => by
 rw [Nat.zero_add, h.cell]
 simpa using hv

/-- A whole struct is stored. -/
theorem storeRow {ops : Array Oper} {rest : List Oper} {op : Oper} {a : Act} {Q : Exit → Act → World → Prop} (hgd : op.guard = none) (ty : TypeId) (x y : Operand) (ho : op.op = .store ty x y) (hrow : RowAt w b T zs)
  (hx : a.eval x = .pointer (some ⟨b, 0, none⟩)) (hy : a.eval y = .agg cells) (hn : cells.size = zs.size) (hi : (P.info? ty).map (·.size) = some cells.size) (h1 : cells.all (·.oneCell') = true)
  (h : ∀ w', RowAt w' b T cells → w.grownBy w' (some b) → wpList P ops Q rest (a.put op.dst undef) w') : wpList P ops Q (op :: rest) a w := by
 refine wpList_store_mid hgd ty x y ho b 0 cells hx hy (fun j hj => ?_) hi h1 (h _ ?_ ?_)
 ·rw [Nat.zero_add, hrow.cell]
  exact ⟨by rw [Array.getElem?_eq_getElem (by omega)]; rfl, hrow.frozen _⟩
 ·have := hrow.sets cells.toList 0
  rw [ovw_all (by simpa using hn)] at this
  simpa using this
 ·have hb := sets_below (g := b) (Nat.zero_le _) cells.toList 0 (Below.refl 0 w)
  exact ⟨hb.os, hb.tape, hb.output, hb.size, fun k _ hk => sets_other _ _ _ (fun e => hk (by rw [e]))⟩

/-- A whole struct is loaded. -/
theorem loadRow {ops : Array Oper} {rest : List Oper} {op : Oper} {a : Act} {Q : Exit → Act → World → Prop} (hgd : op.guard = none) (ty : TypeId) (x : Operand) (ho : op.op = .load ty x) (hrow : RowAt w b T cells)
  (hx : a.eval x = .pointer (some ⟨b, 0, none⟩)) {d : TypeDesc} (hu : P.underlying ty = some d) (hd : d.isRow = true) (hi : (P.info? ty).map (·.size) = some cells.size)
  (h : wpList P ops Q rest (a.put op.dst (.agg cells)) w) : wpList P ops Q (op :: rest) a w :=
 wpList_load_mid hgd ty x ho b 0 hx cells.toList d hrow.range hu hd (by simpa using hi) (by simpa using h)

theorem RowAt.load (hrow : RowAt w b T cells) (ty : TypeId) {d : TypeDesc} (hu : P.underlying ty = some d) (hd : d.isRow = true) (hi : (P.info? ty).map (·.size) = some cells.size) : (loadVar ty ⟨b, 0, none⟩).run P w = .ok (.agg cells) w := by
 have := run_loadVar_mid (P := P) w b 0 ty cells.toList d hrow.range hu hd (by simpa using hi)
 simpa using this

/-- A struct in memory and another result. -/
theorem ret_cell_tmp {fn : Func} {a : Act} {i j : Nat} {t : TypeId} {v : Value} (hf : fn.results = #[.cell i t, .tmp j]) (hi : a.tmps.getD i undef = .pointer (some ⟨b, 0, none⟩)) (hj : a.tmps.getD j undef = v) (hrow : RowAt w b T cells)
  {d : TypeDesc} (hu : P.underlying t = some d) (hd : d.isRow = true) (hs : (P.info? t).map (·.size) = some cells.size) : (results fn a.tmps).run P w = .ok (.tuple #[.agg cells, v]) w := by
 have hl := hrow.load t hu hd hs
 unfold results
 rw [hf]
 simp only [List.mapM_toArray, List.mapM_cons, List.mapM_nil, hi, hj]
 simp [asAddr, hl]

end
end Go.Proofs.YtgobbecpnjelmaaGreat

namespace Go.Proofs.YtgobbecpnjelmaaGreat
open Go.RowKit

end Go.Proofs.YtgobbecpnjelmaaGreat

namespace Go.Proofs.YtgobbecpnjelmaaGreat
open Go.RowKit

theorem PairsR.tail {w : World} {b o n c : Nat} {x : Int × Int} {A : List (Int × Int)} (h : PairsR w (.slice (some ⟨b, o, none⟩) n c) (x :: A)) :
  PairsR w (.slice (if c = 1 then some ⟨b, o, none⟩ else some ⟨b, o + 2, none⟩) A.length (c - 1)) A := by
 have h0 := h
 obtain ⟨_, _, e, h1, h2, _⟩ := h0
 injection e with e1 e2 e3
 subst e3
 rw [List.length_cons] at h1
 by_cases hc : c = 1
 ·rw [if_pos hc]
  have : A = [] := List.eq_nil_of_length_eq_zero (by omega)
  subst this
  exact pairs_nil _ _ _ (by omega)
 ·rw [if_neg hc]
  have := h.cutAt (i := 1) (m := A.length) (by simp; omega) (o' := o + 2) (by omega) (c - 1) (by omega) (by omega)
  simpa using this

end Go.Proofs.YtgobbecpnjelmaaGreat

namespace Go.Proofs.YtgobbecpnjelmaaGreat
open Go.RowKit

end Go.Proofs.YtgobbecpnjelmaaGreat

namespace Go.Proofs.YtgobbecpnjelmaaGreat
open Go.RowKit

end Go.Proofs.YtgobbecpnjelmaaGreat

namespace Go.Proofs.YtgobbecpnjelmaaGreat
open Go.RowKit

end Go.Proofs.YtgobbecpnjelmaaGreat

namespace Go.Proofs.YtgobbecpnjelmaaGreat
open Go.RowKit

end Go.Proofs.YtgobbecpnjelmaaGreat

namespace Go.Proofs.YtgobbecpnjelmaaGreat

/-- What is read: nodes, with what comes of them. -/
inductive BT where
 | leaf (s : Nat)
 | node (c : List Int) (a : Int) (l r : BT)

namespace BT

def cnt : BT → Nat
 | leaf _ => 1
 | node _ _ l r => 1 + l.cnt + r.cnt

def siz : BT → Int
 | leaf s => s
 | node _ _ l r => l.siz + r.siz

def flat : BT → Nat → List NodeP
 | leaf s, _ => [⟨[], 0, 0, 0, s⟩]
 | node c a l r, p => ⟨c, a, (p : Int) + 1, ((p + 1 + l.cnt : Nat) : Int), l.siz + r.siz⟩ :: (l.flat (p + 1) ++ r.flat (p + 1 + l.cnt))

def raw : BT → Nat → List NodeP
 | leaf s, _ => [⟨[], 0, 0, 0, s⟩]
 | node c a l r, p => ⟨c, a, (p : Int) + 1, ((p + 1 + l.cnt : Nat) : Int), 0⟩ :: (l.raw (p + 1) ++ r.raw (p + 1 + l.cnt))

def enc : BT → List Int
 | leaf s => putsU s
 | node c a l r => 0 :: (putsIs c ++ putsI a) ++ (l.enc ++ r.enc)

theorem cnt_pos : ∀ T : BT, 1 ≤ T.cnt
 | leaf _ => Nat.le_refl _
 | node _ _ _ _ => by unfold cnt; omega

theorem flat_len : ∀ (T : BT) (p : Nat), (T.flat p).length = T.cnt
 | leaf _, _ => rfl
 | node c a l r, p => by
  rw [flat, List.length_cons, List.length_append, flat_len l, flat_len r, cnt]
  omega

theorem raw_len : ∀ (T : BT) (p : Nat), (T.raw p).length = T.cnt
 | leaf _, _ => rfl
 | node c a l r, p => by
  rw [raw, List.length_cons, List.length_append, raw_len l, raw_len r, cnt]
  omega
end BT

/-- The bytes of a node. -/
def encN (n : NodeP) : List Int := if n.left = 0 then putsU n.size.toNat else 0 :: (putsIs n.coef ++ putsI n.at_)

theorem BT.flat_enc : ∀ (T : BT) (p : Nat), (T.flat p).flatMap encN = T.enc
 | leaf s, _ => by
  show encN ⟨[], 0, 0, 0, s⟩ ++ [] = putsU s
  rw [List.append_nil]
  unfold encN
  rw [if_pos rfl]
  simp
 | node c a l r, p => by
  rw [flat, List.flatMap_cons, List.flatMap_append, flat_enc l, flat_enc r]
  unfold encN
  rw [if_neg (show ¬ ((p : Int) + 1) = 0 by omega)]
  rfl

/-- What is read from a place on: so many levels may come. -/
def rdB (l : List Int) (d : Nat) : Nat → Nat → Option BT × Nat × Int
 | 0, a => (none, a, 211)
 | h + 1, a =>
  if (rdN' l a 0 64).2.2 ≠ 0 then (none, (rdN' l a 0 64).2.1, (rdN' l a 0 64).2.2) else
  if (rdN' l a 0 64).1 ≠ 0 then (some (.leaf (rdN' l a 0 64).1), (rdN' l a 0 64).2.1, 0) else
  if (rdI' l (rdXs l d (rdN' l a 0 64).2.1 0).2.1 (rdXs l d (rdN' l a 0 64).2.1 0).2.2).2.2 ≠ 0 then (none, (rdI' l (rdXs l d (rdN' l a 0 64).2.1 0).2.1 (rdXs l d (rdN' l a 0 64).2.1 0).2.2).2.1, (rdI' l (rdXs l d (rdN' l a 0 64).2.1 0).2.1 (rdXs l d (rdN' l a 0 64).2.1 0).2.2).2.2) else
  match rdB l d h (rdI' l (rdXs l d (rdN' l a 0 64).2.1 0).2.1 (rdXs l d (rdN' l a 0 64).2.1 0).2.2).2.1 with
  | (none, p, e) => (none, p, e)
  | (some L, p, _) => match rdB l d h p with
   | (none, p', e) => (none, p', e)
   | (some R, p', _) => (some (.node (rdXs l d (rdN' l a 0 64).2.1 0).1 (rdI' l (rdXs l d (rdN' l a 0 64).2.1 0).2.1 (rdXs l d (rdN' l a 0 64).2.1 0).2.2).1 L R), p', 0)

theorem rdB_bad {l : List Int} {d h a s p : Nat} {e : Int} (h1 : rdN' l a 0 64 = (s, p, e)) (he : e ≠ 0) : rdB l d (h + 1) a = (none, p, e) := by
 unfold rdB
 rw [h1]
 exact if_pos he

theorem rdB_leaf {l : List Int} {d h a s p : Nat} (h1 : rdN' l a 0 64 = (s, p, 0)) (hs : s ≠ 0) : rdB l d (h + 1) a = (some (.leaf s), p, 0) := by
 unfold rdB
 rw [h1]
 show (if (0 : Int) ≠ 0 then _ else if s ≠ 0 then _ else _) = _
 rw [if_neg (by simp), if_pos hs]

theorem rdB_node {l : List Int} {d h a p p1 p2 : Nat} {c : List Int} {e1 e2 x : Int} (h1 : rdN' l a 0 64 = (0, p, 0)) (h2 : rdXs l d p 0 = (c, p1, e1)) (h3 : rdI' l p1 e1 = (x, p2, e2)) :
  rdB l d (h + 1) a = if e2 ≠ 0 then (none, p2, e2) else match rdB l d h p2 with
   | (none, p, e) => (none, p, e)
   | (some L, p, _) => match rdB l d h p with
    | (none, p', e) => (none, p', e)
    | (some R, p', _) => (some (.node c x L R), p', 0) := by
 rw [rdB]
 simp only [h1, h2, h3]
 rw [if_neg (by simp), if_neg (by simp)]

theorem rdXs_dead {l : List Int} {a : Nat} {e : Int} (he : e ≠ 0) : ∀ n, (rdXs l n a e).2.1 = a ∧ (rdXs l n a e).2.2 = e
 | 0 => ⟨rfl, rfl⟩
 | n + 1 => by
  obtain ⟨h1, h2⟩ := rdXs_dead he n
  rcases hx : rdXs l n a e with ⟨xs, a1, e1⟩
  rw [hx] at h1 h2
  simp only at h1 h2
  subst h1 h2
  have hk : rdI' l a1 e1 = (0, a1, e1) := by unfold rdI'; rw [if_neg he]
  rw [rdXs_next hx hk]
  exact ⟨rfl, rfl⟩

theorem rdB_spec {l : List Int} (hb : AllB l) (d : Nat) : ∀ (h a : Nat), a ≤ l.length →
  (∀ p e, rdB l d h a = (none, p, e) → e ≠ 0 ∧ p ≤ l.length) ∧ (∀ T p e, rdB l d h a = (some T, p, e) → e = 0 ∧ p ≤ l.length ∧ a < p ∧ Got l a p T.enc)
 | 0, a, ha => ⟨fun p e h => by unfold rdB at h; injection h with _ h; injection h with h1 h2; subst h1 h2; exact ⟨by decide, ha⟩, fun T p e h => by unfold rdB at h; injection h with h; cases h⟩
 | h + 1, a, ha => by
  rcases h1 : rdN' l a 0 64 with ⟨s, p, e⟩
  have hp := rdN'_le hb ha 0 64
  rw [h1] at hp
  simp only at hp
  by_cases he : e = 0
  ·subst he
   have hg := gotN hb (l := l) (a := a) (e := 0) (most := 64) (by rw [h1])
   rw [h1] at hg
   simp only at hg
   have hlt := (rdN'_facts l hb a 0 64).2 (by rw [h1])
   rw [h1] at hlt
   simp only at hlt
   by_cases hs : s = 0
   ·subst hs
    rcases h2 : rdXs l d p 0 with ⟨c, p1, e1⟩
    have hp1 := rdXs_le hb hp 0 d
    rw [h2] at hp1
    simp only at hp1
    rcases h3 : rdI' l p1 e1 with ⟨x, p2, e2⟩
    have hp2 := rdI'_le hb hp1 e1
    rw [h3] at hp2
    simp only at hp2
    rw [rdB_node h1 h2 h3]
    by_cases he2 : e2 = 0
    ·subst he2
     rw [if_neg (by simp)]
     have hgi := gotI hb (l := l) (a := p1) (e := e1) (by rw [h3])
     rw [h3] at hgi
     simp only at hgi
     obtain ⟨rfl, hgi⟩ := hgi
     have hgx := rdXs_got hb (a := p) (e := 0) hp d (by rw [h2])
     rw [h2] at hgx
     simp only at hgx
     obtain ⟨n1, s1⟩ := rdB_spec hb d h p2 hp2
     rcases r1 : rdB l d h p2 with ⟨_ | L, p3, e3⟩
     ·exact ⟨fun p' e' hh => by injection hh with _ hh; injection hh with g1 g2; subst g1 g2; exact n1 _ _ r1, fun T p' e' hh => by injection hh with hh; cases hh⟩
     ·obtain ⟨_, q3, q4, q5⟩ := s1 _ _ _ r1
      obtain ⟨n2, s2⟩ := rdB_spec hb d h p3 q3
      rcases r2 : rdB l d h p3 with ⟨_ | R, p4, e4⟩
      ·simp only [r2]
       exact ⟨fun p' e' hh => by injection hh with _ hh; injection hh with g1 g2; subst g1 g2; exact n2 _ _ r2, fun T p' e' hh => by injection hh with hh; cases hh⟩
      ·simp only [r2]
       obtain ⟨_, q6, q7, q8⟩ := s2 _ _ _ r2
       refine ⟨fun p' e' hh => by (injection hh with hh; cases hh), fun T p' e' hh => ?_⟩
       injection hh with hh1 hh
       injection hh with hh2 hh3
       injection hh1 with hh1
       subst hh1 hh2 hh3
       refine ⟨rfl, q6, ?_, ?_⟩
       ·have := hgx.2.1; have := hgi.1; have := hlt.1; omega
       ·have := ((hg.2.1.trans (hgx.2.trans hgi)).trans (q5.trans q8))
        unfold BT.enc
        exact this
    ·rw [if_pos he2]
     exact ⟨fun p' e' hh => by injection hh with _ hh; injection hh with g1 g2; subst g1 g2; exact ⟨he2, hp2⟩, fun T p' e' hh => by injection hh with hh; cases hh⟩
   ·rw [rdB_leaf h1 hs]
    refine ⟨fun p' e' hh => by (injection hh with hh; cases hh), fun T p' e' hh => ?_⟩
    injection hh with hh1 hh
    injection hh with hh2 hh3
    injection hh1 with hh1
    subst hh1 hh2 hh3
    exact ⟨rfl, hp, hlt.1, hg.2.1⟩
  ·rw [rdB_bad h1 he]
   exact ⟨fun p' e' hh => by injection hh with _ hh; injection hh with g1 g2; subst g1 g2; exact ⟨he, hp⟩, fun T p' e' hh => by injection hh with hh; cases hh⟩
end Go.Proofs.YtgobbecpnjelmaaGreat

namespace Go.Proofs.YtgobbecpnjelmaaGreat

def setR (out : List NodeP) (of : Int) : List NodeP := if 0 ≤ of then out.modify of.toNat (fun n => { n with right := (out.length : Int) }) else out

def leafN (s : Nat) : NodeP := ⟨[], 0, 0, 0, s⟩

def nodeN (c : List Int) (x : Int) (p : Nat) : NodeP := ⟨c, x, (p : Int) + 1, 0, 0⟩

theorem setR_len (out : List NodeP) (of : Int) : (setR out of).length = out.length := by
 unfold setR
 split
 ·exact List.length_modify _ _ _
 ·rfl

theorem setR_no (out : List NodeP) : setR out (-1) = out := by unfold setR; rw [if_neg (by omega)]

theorem setR_pos (out : List NodeP) (k : Nat) : setR out (k : Int) = out.modify k (fun n => { n with right := (out.length : Int) }) := by
 unfold setR
 rw [if_pos (by omega), Int.toNat_natCast]

/-- What the reading of nodes comes to: what must come, what is there, where, how it failed; the result. -/
inductive Run (l : List Int) (d : Nat) : List (Nat × Int) → List NodeP → Nat → Int → (Option (List NodeP) × Nat × Int) → Prop
 | bad {st out a e} : e ≠ 0 → Run l d st out a e (none, a, e)
 | done {out a} : Run l d [] out a 0 (some out, a, 0)
 | deep {dep of rest out a} : 6 < dep → Run l d ((dep, of) :: rest) out a 0 (none, a, 211)
 | leaf {dep of rest out a s p e R} : dep ≤ 6 → rdN' l a 0 64 = (s, p, e) → s ≠ 0 → Run l d rest (setR out of ++ [leafN s]) p e R → Run l d ((dep, of) :: rest) out a 0 R
 | node {dep of rest out a p e c p1 e1 x p2 e2 R} : dep ≤ 6 → rdN' l a 0 64 = (0, p, e) → rdXs l d p e = (c, p1, e1) → rdI' l p1 e1 = (x, p2, e2) →
   Run l d ((dep + 1, -1) :: (dep + 1, (out.length : Int)) :: rest) (setR out of ++ [nodeN c x out.length]) p2 e2 R → Run l d ((dep, of) :: rest) out a 0 R

theorem Run.err {l : List Int} {d : Nat} {st : List (Nat × Int)} {out : List NodeP} {a : Nat} {e : Int} {R : Option (List NodeP) × Nat × Int} (h : Run l d st out a e R) (he : e ≠ 0) : R = (none, a, e) := by
 cases h with
 | bad _ => rfl
 | done => exact absurd rfl he
 | deep _ => exact absurd rfl he
 | leaf _ _ _ _ => exact absurd rfl he
 | node _ _ _ _ _ => exact absurd rfl he

theorem modify_mid {pre post : List NodeP} {n : NodeP} {f : NodeP → NodeP} {k : Nat} (hk : k = pre.length) : (pre ++ n :: post).modify k f = pre ++ f n :: post := by
 subst hk
 apply List.ext_getElem?
 intro j
 rw [List.getElem?_modify]
 rcases Nat.lt_trichotomy j pre.length with h | h | h
 ·rw [List.getElem?_append_left h, List.getElem?_append_left h]
  simp [show ¬ pre.length = j by omega]
 ·subst h
  rw [List.getElem?_append_right (Nat.le_refl _), List.getElem?_append_right (Nat.le_refl _), Nat.sub_self]
  simp
 ·rw [List.getElem?_append_right (by omega), List.getElem?_append_right (by omega)]
  have e : j - pre.length = (j - pre.length - 1) + 1 := by omega
  rw [e]
  simp [show ¬ pre.length = j by omega]

theorem run_rdB {l : List Int} {d : Nat} : ∀ (h dep : Nat), dep + h = 7 → ∀ (rest : List (Nat × Int)) (of : Int) (out : List NodeP) (a : Nat) (R : Option (List NodeP) × Nat × Int), Run l d ((dep, of) :: rest) out a 0 R →
  (∀ p e, rdB l d h a = (none, p, e) → e ≠ 0 → R = (none, p, e)) ∧ (∀ T p e, rdB l d h a = (some T, p, e) → Run l d rest (setR out of ++ T.raw out.length) p 0 R)
 | 0, dep, hd, rest, of, out, a, R, hr => by
  obtain rfl : dep = 7 := by omega
  cases hr with
  | bad h => exact absurd rfl h
  | deep _ => exact ⟨fun p e hh _ => by unfold rdB at hh; injection hh with _ hh; injection hh with g1 g2; subst g1 g2; rfl, fun T p e hh => by unfold rdB at hh; injection hh with hh; cases hh⟩
  | leaf h _ _ _ => exact absurd h (by omega)
  | node h _ _ _ _ => exact absurd h (by omega)
 | h + 1, dep, hd, rest, of, out, a, R, hr => by
  cases hr with
  | bad h => exact absurd rfl h
  | deep h => exact absurd h (by omega)
  | @leaf _ _ _ _ _ s p e _ hdep h1 hs hr =>
   by_cases he : e = 0
   ·subst he
    rw [rdB_leaf h1 hs]
    refine ⟨fun p' e' hh => by (injection hh with hh; cases hh), fun T p' e' hh => ?_⟩
    injection hh with hh1 hh
    injection hh with hh2 hh3
    injection hh1 with hh1
    subst hh1 hh2
    exact hr
   ·have h0 : s = 0 := by
     rw [rdN'_of] at h1
     split at h1
     ·injection h1 with g1 _; exact g1.symm
     ·split at h1
      ·injection h1 with g1 _; exact g1.symm
      ·rename_i hx _
       rw [h1] at hx
       exact absurd (by simpa using hx) he
    exact absurd h0 hs
  | @node _ _ _ _ _ p e c p1 e1 x p2 e2 _ hdep h1 h2 h3 hr =>
   by_cases he : e = 0
   ·subst he
    rw [rdB_node h1 h2 h3]
    by_cases he2 : e2 = 0
    ·subst he2
     rw [if_neg (by simp)]
     have i1 := run_rdB h (dep + 1) (by omega) _ _ _ _ _ hr
     rcases r1 : rdB l d h p2 with ⟨_ | L, p3, e3⟩
     ·exact ⟨fun p' e' hh hne => by injection hh with _ hh; injection hh with g1 g2; subst g1 g2; exact i1.1 _ _ r1 hne, fun T p' e' hh => by injection hh with hh; cases hh⟩
     ·have hr2 := i1.2 _ _ _ r1
      have i2 := run_rdB h (dep + 1) (by omega) _ _ _ _ _ hr2
      rcases r2 : rdB l d h p3 with ⟨_ | T2, p4, e4⟩
      ·simp only [r2]
       exact ⟨fun p' e' hh hne => by injection hh with _ hh; injection hh with g1 g2; subst g1 g2; exact i2.1 _ _ r2 hne, fun T p' e' hh => by injection hh with hh; cases hh⟩
      ·simp only [r2]
       refine ⟨fun p' e' hh => by (injection hh with hh; cases hh), fun T p' e' hh => ?_⟩
       injection hh with hh1 hh
       injection hh with hh2 hh3
       injection hh1 with hh1
       subst hh1 hh2
       have hr3 := i2.2 _ _ _ r2
       rw [setR_no] at hr3
       have hlen : (setR out of ++ [nodeN c x out.length]).length = out.length + 1 := by rw [List.length_append, setR_len]; rfl
       rw [hlen] at hr3
       have hlen2 : (setR out of ++ [nodeN c x out.length] ++ L.raw (out.length + 1)).length = out.length + 1 + L.cnt := by rw [List.length_append, hlen, BT.raw_len]
       rw [hlen2] at hr3
       have hset : setR (setR out of ++ [nodeN c x out.length] ++ L.raw (out.length + 1)) (out.length : Int) = setR out of ++ ⟨c, x, (out.length : Int) + 1, ((out.length + 1 + L.cnt : Nat) : Int), 0⟩ :: L.raw (out.length + 1) := by
        rw [setR_pos, hlen2, List.append_assoc, List.singleton_append, modify_mid (setR_len out of).symm]
        rfl
       rw [hset] at hr3
       have hfin : setR out of ++ (BT.node c x L T2).raw out.length = setR out of ++ ⟨c, x, (out.length : Int) + 1, ((out.length + 1 + L.cnt : Nat) : Int), 0⟩ :: L.raw (out.length + 1) ++ T2.raw (out.length + 1 + L.cnt) := by
        rw [BT.raw, List.append_assoc]
        rfl
       rw [hfin]
       exact hr3
    ·rw [if_pos he2]
     have hR := hr.err he2
     exact ⟨fun p' e' hh hne => by injection hh with _ hh; injection hh with g1 g2; subst g1 g2; exact hR, fun T p' e' hh => by injection hh with hh; cases hh⟩
   ·rw [rdB_bad h1 he]
    have hx := rdXs_dead (l := l) (a := p) he d
    rw [h2] at hx
    simp only at hx
    obtain ⟨rfl, rfl⟩ := hx
    have hk : rdI' l p1 e1 = (0, p1, e1) := by unfold rdI'; rw [if_neg he]
    rw [hk] at h3
    injection h3 with _ h3
    injection h3 with h3 h4
    subst h3 h4
    have hR := hr.err he
    exact ⟨fun p' e' hh hne => by injection hh with _ hh; injection hh with g1 g2; subst g1 g2; exact hR, fun T p' e' hh => by injection hh with hh; cases hh⟩

/-- What nodes from a root on are. -/
def rdNodes (l : List Int) (d a : Nat) : Option BT × Nat × Int := rdB l d 7 a

theorem run_nodes {l : List Int} (hb : AllB l) {d a : Nat} (ha : a ≤ l.length) {R : Option (List NodeP) × Nat × Int} (h : Run l d [(0, -1)] [] a 0 R) :
  (∀ p e, rdNodes l d a = (none, p, e) → R = (none, p, e)) ∧ (∀ T p e, rdNodes l d a = (some T, p, e) → R = (some (T.raw 0), p, 0)) := by
 obtain ⟨h1, h2⟩ := run_rdB 7 0 rfl [] (-1) [] a R h
 obtain ⟨g1, g2⟩ := rdB_spec hb d 7 a ha
 refine ⟨fun p e hh => h1 p e hh (g1 p e hh).1, fun T p e hh => ?_⟩
 have := h2 T p e hh
 rw [setR_no, List.nil_append] at this
 generalize e0 : (0 : Int) = z at this
 cases this with
 | bad hx => exact absurd e0.symm hx
 | done => rfl
end Go.Proofs.YtgobbecpnjelmaaGreat

namespace Go.Proofs.YtgobbecpnjelmaaGreat

namespace BT

def hgt : BT → Nat
 | leaf _ => 0
 | node _ _ l r => 1 + max l.hgt r.hgt

def Ok (d : Nat) : BT → Prop
 | leaf s => 1 ≤ s ∧ s ≤ 64
 | node c a l r => c.length = d ∧ (∀ x ∈ c, Ok64 x) ∧ Ok64 a ∧ l.Ok d ∧ r.Ok d

theorem root : ∀ (T : BT) (p : Nat), ∃ n, (T.flat p)[0]? = some n ∧ n.size = T.siz
 | leaf _, _ => ⟨_, rfl, rfl⟩
 | node _ _ _ _, _ => ⟨_, rfl, rfl⟩

theorem flat_at : ∀ (T : BT) (p j : Nat) (n : NodeP), (T.flat p)[j]? = some n → ∃ m, (T.raw p)[j]? = some m ∧
  ((n.left = 0 ∧ m = n) ∨ (n.left = ((p + j + 1 : Nat) : Int) ∧ m = { n with size := 0 } ∧ ∃ (r : Nat) (nl nr : NodeP), n.right = ((p + r : Nat) : Int) ∧ j + 1 < r ∧ (T.flat p)[j + 1]? = some nl ∧ (T.flat p)[r]? = some nr ∧ n.size = nl.size + nr.size))
 | leaf s, p, j, n, h => by
  cases j with
  | zero =>
   obtain rfl : (⟨[], 0, 0, 0, s⟩ : NodeP) = n := by simpa [flat] using h
   exact ⟨_, rfl, .inl ⟨rfl, rfl⟩⟩
  | succ j => simp [flat] at h
 | node c a l r, p, j, n, h => by
  cases j with
  | zero =>
   obtain rfl : (⟨c, a, (p : Int) + 1, ((p + 1 + l.cnt : Nat) : Int), l.siz + r.siz⟩ : NodeP) = n := by simpa [flat] using h
   obtain ⟨nl, h1, h2⟩ := l.root (p + 1)
   obtain ⟨nr, h3, h4⟩ := r.root (p + 1 + l.cnt)
   have hc := l.cnt_pos
   refine ⟨_, rfl, .inr ⟨by simp, rfl, 1 + l.cnt, nl, nr, by show ((p + 1 + l.cnt : Nat) : Int) = _; rw [Nat.add_assoc], by omega, ?_, ?_, by rw [h2, h4]⟩⟩
   ·rw [flat, List.getElem?_cons_succ, List.getElem?_append_left (by rw [flat_len]; omega)]
    exact h1
   ·rw [flat, Nat.add_comm 1, List.getElem?_cons_succ, List.getElem?_append_right (by rw [flat_len]; exact Nat.le_refl _), flat_len, Nat.sub_self]
    exact h3
  | succ j =>
   rw [flat, List.getElem?_cons_succ] at h
   by_cases hj : j < l.cnt
   ·rw [List.getElem?_append_left (by rw [flat_len]; exact hj)] at h
    obtain ⟨m, h1, h2⟩ := flat_at l (p + 1) j n h
    refine ⟨m, ?_, ?_⟩
    ·rw [raw, List.getElem?_cons_succ, List.getElem?_append_left (by rw [raw_len]; exact hj)]
     exact h1
    ·rcases h2 with h2 | ⟨g1, g2, q, nl, nr, g3, g4, g5, g6, g7⟩
     ·exact .inl h2
     ·have hq : q < l.cnt := by rw [← flat_len l (p + 1)]; exact (List.getElem?_eq_some_iff.1 g6).1
      refine .inr ⟨by rw [g1]; congr 1; omega, g2, q + 1, nl, nr, by rw [g3]; congr 1; omega, by omega, ?_, ?_, g7⟩
      ·rw [flat, List.getElem?_cons_succ, List.getElem?_append_left (by rw [flat_len]; omega)]
       exact g5
      ·rw [flat, List.getElem?_cons_succ, List.getElem?_append_left (by rw [flat_len]; omega)]
       exact g6
   ·rw [List.getElem?_append_right (by rw [flat_len]; omega), flat_len] at h
    obtain ⟨m, h1, h2⟩ := flat_at r (p + 1 + l.cnt) (j - l.cnt) n h
    refine ⟨m, ?_, ?_⟩
    ·rw [raw, List.getElem?_cons_succ, List.getElem?_append_right (by rw [raw_len]; omega), raw_len]
     exact h1
    ·rcases h2 with h2 | ⟨g1, g2, q, nl, nr, g3, g4, g5, g6, g7⟩
     ·exact .inl h2
     ·refine .inr ⟨by rw [g1]; congr 1; omega, g2, q + l.cnt + 1, nl, nr, by rw [g3]; congr 1; omega, by omega, ?_, ?_, g7⟩
      ·rw [flat, List.getElem?_cons_succ, List.getElem?_append_right (by rw [flat_len]; omega), flat_len, show j + 1 - l.cnt = j - l.cnt + 1 by omega]
       exact g5
      ·rw [flat, List.getElem?_cons_succ, List.getElem?_append_right (by rw [flat_len]; omega), flat_len, show q + l.cnt - l.cnt = q by omega]
       exact g6

theorem siz_bd {d : Nat} : ∀ T : BT, T.Ok d → 1 ≤ T.siz ∧ T.siz ≤ 64 * (T.cnt : Int)
 | leaf s, h => by
  have h1 := h.1
  have h2 := h.2
  show 1 ≤ (s : Int) ∧ (s : Int) ≤ 64 * ((1 : Nat) : Int)
  omega
 | node c a l r, h => by
  obtain ⟨_, _, _, h1, h2⟩ := h
  have g1 := siz_bd l h1
  have g2 := siz_bd r h2
  show 1 ≤ l.siz + r.siz ∧ l.siz + r.siz ≤ 64 * ((1 + l.cnt + r.cnt : Nat) : Int)
  omega

theorem cnt_bd : ∀ (T : BT) (h : Nat), T.hgt < h → T.cnt + 1 ≤ 2 ^ h
 | leaf s, h, hh => by
  have : 2 ^ 1 ≤ 2 ^ h := Nat.pow_le_pow_right (by omega) (by omega)
  show 1 + 1 ≤ _
  omega
 | node c a l r, 0, hh => by omega
 | node c a l r, h + 1, hh => by
  have hm : 1 + max l.hgt r.hgt < h + 1 := hh
  have g1 := cnt_bd l h (by omega)
  have g2 := cnt_bd r h (by omega)
  show 1 + l.cnt + r.cnt + 1 ≤ 2 ^ (h + 1)
  rw [Nat.pow_succ]
  omega

theorem flat_size {d : Nat} : ∀ (T : BT) (p j : Nat) (n : NodeP), T.Ok d → (T.flat p)[j]? = some n → 1 ≤ n.size ∧ n.size ≤ 64 * (T.cnt : Int)
 | leaf s, p, j, n, ho, h => by
  cases j with
  | zero =>
   obtain rfl : (⟨[], 0, 0, 0, s⟩ : NodeP) = n := by simpa [flat] using h
   exact siz_bd (leaf s) ho
  | succ j => simp [flat] at h
 | node c a l r, p, j, n, ho, h => by
  cases j with
  | zero =>
   obtain rfl : (⟨c, a, (p : Int) + 1, ((p + 1 + l.cnt : Nat) : Int), l.siz + r.siz⟩ : NodeP) = n := by simpa [flat] using h
   exact siz_bd (node c a l r) ho
  | succ j =>
   rw [flat, List.getElem?_cons_succ] at h
   have hc : ((node c a l r).cnt : Int) = 1 + l.cnt + r.cnt := by show ((1 + l.cnt + r.cnt : Nat) : Int) = _; omega
   by_cases hj : j < l.cnt
   ·rw [List.getElem?_append_left (by rw [flat_len]; exact hj)] at h
    have := flat_size l (p + 1) j n ho.2.2.2.1 h
    omega
   ·rw [List.getElem?_append_right (by rw [flat_len]; omega), flat_len] at h
    have := flat_size r (p + 1 + l.cnt) (j - l.cnt) n ho.2.2.2.2 h
    omega

theorem enc_all : ∀ T : BT, AllB T.enc
 | leaf s => putsU_all s
 | node c a l r => by
  intro x hx
  unfold enc at hx
  simp only [List.cons_append, List.mem_cons, List.mem_append] at hx
  rcases hx with rfl | (hx | hx) | hx | hx
  ·omega
  ·exact putsIs_all c x hx
  ·exact putsU_all _ x hx
  ·exact enc_all l x hx
  ·exact enc_all r x hx
end BT

theorem rdXs_64 {l : List Int} (hb : AllB l) (a : Nat) (e : Int) : ∀ n, ∀ x ∈ (rdXs l n a e).1, Ok64 x
 | 0, x, hx => by simp [rdXs] at hx
 | n + 1, x, hx => by
  rw [rdXs, List.mem_append, List.mem_singleton] at hx
  rcases hx with hx | rfl
  ·exact rdXs_64 hb a e n x hx
  ·exact rdI'_64 hb _ _

theorem rdB_ok {l : List Int} (hb : AllB l) (d : Nat) : ∀ (h a : Nat) (T : BT) (p : Nat) (e : Int), rdB l d h a = (some T, p, e) → T.Ok d ∧ T.hgt < h
 | 0, a, T, p, e, hh => by unfold rdB at hh; injection hh with hh; cases hh
 | h + 1, a, T, p', e', hh => by
  rcases h1 : rdN' l a 0 64 with ⟨s, p, e⟩
  by_cases he : e = 0
  ·subst he
   have hlt := (rdN'_facts l hb a 0 64).2 (by rw [h1])
   rw [h1] at hlt
   simp only at hlt
   by_cases hs : s = 0
   ·subst hs
    rcases h2 : rdXs l d p 0 with ⟨c, p1, e1⟩
    have hc1 := rdXs_len l p 0 d
    have hc2 := rdXs_64 hb p 0 d
    rw [h2] at hc1 hc2
    rcases h3 : rdI' l p1 e1 with ⟨x, p2, e2⟩
    have hx := rdI'_64 hb p1 e1
    rw [h3] at hx
    rw [rdB_node h1 h2 h3] at hh
    by_cases he2 : e2 = 0
    ·subst he2
     rw [if_neg (by simp)] at hh
     rcases r1 : rdB l d h p2 with ⟨_ | L, p3, e3⟩
     ·rw [r1] at hh; injection hh with hh; cases hh
     ·rw [r1] at hh
      simp only at hh
      rcases r2 : rdB l d h p3 with ⟨_ | R, p4, e4⟩
      ·rw [r2] at hh; injection hh with hh; cases hh
      ·rw [r2] at hh
       injection hh with hh _
       injection hh with hh
       subst hh
       have g1 := rdB_ok hb d h _ _ _ _ r1
       have g2 := rdB_ok hb d h _ _ _ _ r2
       refine ⟨⟨hc1, hc2, hx, g1.1, g2.1⟩, ?_⟩
       show 1 + max L.hgt R.hgt < h + 1
       have := g1.2
       have := g2.2
       omega
    ·rw [if_pos he2] at hh; injection hh with hh; cases hh
   ·rw [rdB_leaf h1 hs] at hh
    injection hh with hh _
    injection hh with hh
    subst hh
    refine ⟨⟨by omega, by omega⟩, Nat.succ_pos h⟩
  ·rw [rdB_bad h1 he] at hh; injection hh with hh; cases hh

theorem rdXs_puts (pre : List Int) : ∀ (c rest : List Int), (∀ x ∈ c, Ok64 x) → rdXs (pre ++ (putsIs c ++ rest)) c.length pre.length 0 = (c, pre.length + (putsIs c).length, 0) := by
 intro c
 refine snocInd (P := fun c => ∀ rest : List Int, (∀ x ∈ c, Ok64 x) → rdXs (pre ++ (putsIs c ++ rest)) c.length pre.length 0 = (c, pre.length + (putsIs c).length, 0)) ?_ ?_ c
 ·intro rest _
  rfl
 ·intro c x ih rest h
  have h1 := ih (putsI x ++ rest) fun y hy => h y (by simp [hy])
  have h2 := rdI_puts (pre ++ putsIs c) rest x (h x (by simp))
  rw [putsIs_snoc, List.append_assoc, List.length_append, List.length_singleton]
  have h3 : rdI' (pre ++ (putsIs c ++ (putsI x ++ rest))) (pre.length + (putsIs c).length) 0 = (x, pre.length + (putsIs c ++ putsI x).length, 0) := by
   unfold rdI'
   rw [if_pos rfl, ← List.append_assoc, ← List.length_append, h2, List.length_append, List.length_append, Nat.add_assoc]
  exact rdXs_next h1 h3

theorem rdB_puts {d : Nat} : ∀ (T : BT) (h : Nat) (pre rest : List Int), T.Ok d → T.hgt < h → rdB (pre ++ (T.enc ++ rest)) d h pre.length = (some T, pre.length + T.enc.length, 0)
 | .leaf s, 0, pre, rest, ho, hh => absurd hh (Nat.not_lt_zero _)
 | .leaf s, h + 1, pre, rest, ho, hh => by
  have h1 : rdN' (pre ++ (putsU s ++ rest)) pre.length 0 64 = (s, pre.length + (putsU s).length, 0) := by
   unfold rdN'
   rw [if_pos rfl]
   exact rdN_puts pre rest s (by have := ho.2; omega) 64 (by have := ho.2; omega)
  have := ho.1
  exact rdB_leaf h1 (by omega)
 | .node c a l r, 0, pre, rest, ho, hh => absurd hh (Nat.not_lt_zero _)
 | .node c a l r, h + 1, pre, rest, ho, hh => by
  obtain ⟨o1, o2, o3, o4, o5⟩ := ho
  have hm : 1 + max l.hgt r.hgt < h + 1 := hh
  have e0 : pre ++ ((BT.node c a l r).enc ++ rest) = pre ++ (putsU 0 ++ (putsIs c ++ (putsI a ++ (l.enc ++ (r.enc ++ rest))))) := by
   show pre ++ ((0 :: (putsIs c ++ putsI a) ++ (l.enc ++ r.enc)) ++ rest) = _
   rw [show putsU 0 = [0] from rfl]
   simp [List.append_assoc]
  rw [e0]
  have h1 : rdN' (pre ++ (putsU 0 ++ (putsIs c ++ (putsI a ++ (l.enc ++ (r.enc ++ rest)))))) pre.length 0 64 = (0, pre.length + 1, 0) := by
   unfold rdN'
   rw [if_pos rfl]
   exact rdN_puts pre _ 0 (by omega) 64 (by omega)
  have a1 : pre ++ (putsU 0 ++ (putsIs c ++ (putsI a ++ (l.enc ++ (r.enc ++ rest))))) = (pre ++ [0]) ++ (putsIs c ++ (putsI a ++ (l.enc ++ (r.enc ++ rest)))) := by rw [List.append_assoc]; rfl
  have h2 : rdXs (pre ++ (putsU 0 ++ (putsIs c ++ (putsI a ++ (l.enc ++ (r.enc ++ rest)))))) d (pre.length + 1) 0 = (c, pre.length + 1 + (putsIs c).length, 0) := by
   have := rdXs_puts (pre ++ [0]) c (putsI a ++ (l.enc ++ (r.enc ++ rest))) o2
   rw [o1, List.length_append, List.length_singleton] at this
   rw [a1]
   exact this
  have a2 : pre ++ (putsU 0 ++ (putsIs c ++ (putsI a ++ (l.enc ++ (r.enc ++ rest))))) = (pre ++ [0] ++ putsIs c) ++ (putsI a ++ (l.enc ++ (r.enc ++ rest))) := by rw [a1, ← List.append_assoc]
  have h3 : rdI' (pre ++ (putsU 0 ++ (putsIs c ++ (putsI a ++ (l.enc ++ (r.enc ++ rest)))))) (pre.length + 1 + (putsIs c).length) 0 = (a, pre.length + 1 + (putsIs c).length + (putsI a).length, 0) := by
   have := rdI_puts (pre ++ [0] ++ putsIs c) (l.enc ++ (r.enc ++ rest)) a o3
   rw [List.length_append, List.length_append, List.length_singleton] at this
   unfold rdI'
   rw [if_pos rfl, a2]
   exact this
  rw [rdB_node h1 h2 h3, if_neg (by simp)]
  have a3 : pre ++ (putsU 0 ++ (putsIs c ++ (putsI a ++ (l.enc ++ (r.enc ++ rest))))) = (pre ++ [0] ++ putsIs c ++ putsI a) ++ (l.enc ++ (r.enc ++ rest)) := by rw [a2, ← List.append_assoc]
  have r1 := rdB_puts l h (pre ++ [0] ++ putsIs c ++ putsI a) (r.enc ++ rest) o4 (by omega)
  rw [← a3] at r1
  have l1 : (pre ++ [0] ++ putsIs c ++ putsI a).length = pre.length + 1 + (putsIs c).length + (putsI a).length := by simp [List.length_append]; omega
  rw [l1] at r1
  rw [r1]
  have a4 : pre ++ (putsU 0 ++ (putsIs c ++ (putsI a ++ (l.enc ++ (r.enc ++ rest))))) = (pre ++ [0] ++ putsIs c ++ putsI a ++ l.enc) ++ (r.enc ++ rest) := by rw [a3, ← List.append_assoc]
  have r2 := rdB_puts r h (pre ++ [0] ++ putsIs c ++ putsI a ++ l.enc) rest o5 (by omega)
  rw [← a4, List.length_append, l1] at r2
  simp only [r2]
  have l2 : (BT.node c a l r).enc.length = 1 + (putsIs c).length + (putsI a).length + l.enc.length + r.enc.length := by
   show (0 :: (putsIs c ++ putsI a) ++ (l.enc ++ r.enc)).length = _
   simp [List.length_append]
   omega
  rw [l2]
  simp only [Prod.mk.injEq, true_and, and_true]
  omega
end Go.Proofs.YtgobbecpnjelmaaGreat
