/-
  Plain laws of trees: which nodes are a tree, the way of a vector, the leaves.
-/
import Derived.Test.YtopodhcgfmpphaaKit
import Derived.Lib.ItoaNum
namespace Go.Proofs.Ytopodhcgfmpphaa
open Go.RowKit

/-- A node, by its numbers. -/
structure NodeP where
  coef : List Int
  at_ : Int
  left : Int
  right : Int
  size : Int

/-- A tree, by its numbers. -/
structure TreeP where
  dim : Int
  nodes : List NodeP

def vecB (v : List Int) (dim : Int) : Bool :=
  decide (1 ≤ dim) && decide (dim ≤ 8) && decide ((v.length : Int) = dim) && v.all fun x => decide (-2147483648 ≤ x) && decide (x ≤ 2147483647)
def partsB (c : List Int) (dim : Int) : Bool :=
  decide (1 ≤ dim) && decide (dim ≤ 8) && decide ((c.length : Int) = dim) && (c.all fun x => decide (-4 ≤ x) && decide (x ≤ 4)) && c.any fun x => decide (x ≠ 0)
def cutB (c : List Int) (a dim : Int) : Bool := decide (-137438953472 ≤ a) && decide (a ≤ 137438953472) && partsB c dim
def leafB (n : NodeP) : Bool := decide (n.left = 0) && decide (n.right = 0) && decide (n.coef.length = 0) && decide (n.at_ = 0) && decide (1 ≤ n.size)

def dotI : List Int → List Int → Int
  | c :: cs, x :: xs => c * x + dotI cs xs
  | _, _ => 0

/-- The nodes of a part of a tree: where it begins, where it ends, how high it is, how many points it has. -/
inductive Sub (t : TreeP) : Nat → Nat → Nat → Int → Prop
  | leaf {i : Nat} {n : NodeP} : t.nodes[i]? = some n → leafB n = true → Sub t i (i + 1) 0 n.size
  | node {i m e a b : Nat} {x y : Int} {n : NodeP} : t.nodes[i]? = some n → n.left = (i : Int) + 1 → cutB n.coef n.at_ t.dim = true → Sub t (i + 1) m a x → n.right = (m : Int) → Sub t m e b y →
      n.size = x + y → Sub t i e (1 + max a b) n.size

theorem leafB_is {n : NodeP} (h : leafB n = true) : n.left = 0 ∧ n.right = 0 ∧ n.coef = [] ∧ n.at_ = 0 ∧ 1 ≤ n.size := by
  unfold leafB at h
  simp only [Bool.and_eq_true, decide_eq_true_eq] at h
  exact ⟨h.1.1.1.1, h.1.1.1.2, List.eq_nil_of_length_eq_zero h.1.1.2, h.1.2, h.2⟩

theorem Sub.lt {t : TreeP} {i e h : Nat} {s : Int} (q : Sub t i e h s) : i < e ∧ e ≤ t.nodes.length := by
  induction q with
  | leaf hn _ => exact ⟨by omega, (List.getElem?_eq_some_iff.1 hn).1⟩
  | node hn _ _ _ _ _ _ ih1 ih2 => omega

theorem Sub.at_ {t : TreeP} {i e h : Nat} {s : Int} (q : Sub t i e h s) : ∃ n, t.nodes[i]? = some n ∧ n.size = s := by
  cases q with
  | leaf hn _ => exact ⟨_, hn, rfl⟩
  | node hn _ _ _ _ _ _ => exact ⟨_, hn, rfl⟩

theorem Sub.pos {t : TreeP} {i e h : Nat} {s : Int} (q : Sub t i e h s) : 1 ≤ s := by
  induction q with
  | leaf hn hl => exact (leafB_is hl).2.2.2.2
  | node hn _ _ _ _ _ hs ih1 ih2 => omega

theorem Sub.room {t : TreeP} {i e h : Nat} {s : Int} (q : Sub t i e h s) : (e : Int) + 1 ≤ i + 2 * s := by
  induction q with
  | leaf hn hl => have := (leafB_is hl).2.2.2.2; omega
  | node hn _ _ _ _ _ hs ih1 ih2 => omega

theorem Sub.high {t : TreeP} {i e h : Nat} {s : Int} (q : Sub t i e h s) : h + 1 + i ≤ e := by
  induction q with
  | leaf hn hl => omega
  | node hn _ _ _ _ _ hs ih1 ih2 => omega

theorem Sub.same {t : TreeP} {i e h : Nat} {s : Int} (q : Sub t i e h s) : ∀ {e' h' : Nat} {s' : Int}, Sub t i e' h' s' → e = e' ∧ h = h' ∧ s = s' := by
  induction q with
  | leaf hn hl =>
    intro e' h' s' q'
    cases q' with
    | leaf hn' _ =>
      rw [hn] at hn'
      injection hn' with hn'
      subst hn'
      exact ⟨rfl, rfl, rfl⟩
    | node hn' hl' =>
      rw [hn] at hn'
      injection hn' with hn'
      subst hn'
      have := (leafB_is hl).1
      omega
  | @node i m e a b x y n hn hl hc q1 hr q2 hs ih1 ih2 =>
    intro e' h' s' q'
    cases q' with
    | leaf hn' hl' =>
      rw [hn] at hn'
      injection hn' with hn'
      subst hn'
      have := (leafB_is hl').1
      omega
    | @node _ m' _ _ _ _ _ n' hn' _ _ q1' hr' q2' hs' =>
      rw [hn] at hn'
      injection hn' with hn'
      subst hn'
      obtain ⟨e1, e2, e3⟩ := ih1 q1'
      have hm : m = m' := by omega
      subst hm
      obtain ⟨f1, f2, f3⟩ := ih2 q2'
      subst e2 f1 f2
      exact ⟨rfl, rfl, rfl⟩

/-- Each node of a part is the first one of a part, no larger. -/
theorem Sub.parts {t : TreeP} {i e h : Nat} {s : Int} (q : Sub t i e h s) : ∀ j, i ≤ j → j < e → ∃ e' h' s', Sub t j e' h' s' ∧ e' ≤ e ∧ h' ≤ h ∧ s' ≤ s := by
  induction q with
  | @leaf i n hn hl =>
    intro j h1 h2
    obtain rfl : j = i := by omega
    exact ⟨_, _, _, .leaf hn hl, by omega, by omega, by omega⟩
  | @node i m e a b x y n hn hl hc q1 hr q2 hs ih1 ih2 =>
    intro j h1 h2
    have p1 := q1.pos; have p2 := q2.pos
    have l1 := q1.lt; have l2 := q2.lt
    rcases Nat.lt_or_ge j (i + 1) with hj | hj
    · obtain rfl : j = i := by omega
      exact ⟨_, _, _, .node hn hl hc q1 hr q2 hs, by omega, by omega, by omega⟩
    · rcases Nat.lt_or_ge j m with hj2 | hj2
      · obtain ⟨e', h', s', q, g1, g2, g3⟩ := ih1 j hj hj2
        exact ⟨e', h', s', q, by omega, by omega, by omega⟩
      · obtain ⟨e', h', s', q, g1, g2, g3⟩ := ih2 j hj2 h2
        exact ⟨e', h', s', q, by omega, by omega, by omega⟩

/-- What a node at a place must be, where it is the first one of a part. -/
theorem Sub.inv {t : TreeP} {i e h : Nat} {s : Int} {n : NodeP} (q : Sub t i e h s) (hn : t.nodes[i]? = some n) : (leafB n = true ∧ e = i + 1 ∧ h = 0 ∧ s = n.size) ∨
    ∃ m a b x y, n.left = (i : Int) + 1 ∧ cutB n.coef n.at_ t.dim = true ∧ Sub t (i + 1) m a x ∧ n.right = (m : Int) ∧ Sub t m e b y ∧ n.size = x + y ∧ h = 1 + max a b ∧ s = n.size := by
  cases q with
  | leaf hn' hl =>
    rw [hn] at hn'
    injection hn' with hn'
    subst hn'
    exact .inl ⟨hl, rfl, rfl, rfl⟩
  | @node _ m _ a b x y _ hn' hl hc q1 hr q2 hs =>
    rw [hn] at hn'
    injection hn' with hn'
    subst hn'
    exact .inr ⟨m, a, b, x, y, hl, hc, q1, hr, q2, hs, rfl, rfl⟩

def logI (n : Int) : Nat := Lib.bitLen (n.toNat - 1)

/-- Is it a tree? -/
def IsTree (t : TreeP) : Prop := 1 ≤ t.dim ∧ t.dim ≤ 8 ∧ ∃ h s, Sub t 0 t.nodes.length h s ∧ s ≤ 64 ∧ h ≤ logI s

noncomputable def treeB (t : TreeP) : Bool := @decide (IsTree t) (Classical.propDecidable _)

theorem treeB_true {t : TreeP} : treeB t = true ↔ IsTree t := by unfold treeB; simp
theorem treeB_false {t : TreeP} : treeB t = false ↔ ¬ IsTree t := by unfold treeB; simp

theorem logI_le {n : Int} (h : n ≤ 64) : logI n ≤ 6 := by
  unfold logI
  have : n.toNat - 1 ≤ 63 := by omega
  generalize n.toNat - 1 = k at *
  have : ∀ k : Fin 64, Lib.bitLen k.val ≤ 6 := by decide
  exact this ⟨k, by omega⟩

theorem IsTree.len {t : TreeP} (h : IsTree t) : 1 ≤ t.nodes.length ∧ t.nodes.length ≤ 127 := by
  obtain ⟨_, _, g, s, q, h1, h2⟩ := h
  have := q.room; have := q.lt
  omega


/-- What a node of a tree that is no leaf must be. -/
theorem IsTree.inner {t : TreeP} (h : IsTree t) {i : Nat} {n : NodeP} (hn : t.nodes[i]? = some n) (hl : leafB n = false) :
    ∃ m e a b x y, n.left = (i : Int) + 1 ∧ cutB n.coef n.at_ t.dim = true ∧ Sub t (i + 1) m a x ∧ n.right = (m : Int) ∧ Sub t m e b y ∧ n.size = x + y ∧ ∀ r, t.nodes[0]? = some r → x ≤ r.size ∧ y ≤ r.size := by
  obtain ⟨_, _, g, s, q, h1, h2⟩ := h
  obtain ⟨e', h', s', q', g1, g2, g3⟩ := q.parts i (by omega) (List.getElem?_eq_some_iff.1 hn).1
  rcases q'.inv hn with ⟨hl', _⟩ | ⟨m, a, b, x, y, k1, k2, k3, k4, k5, k6, k7, k8⟩
  · rw [hl] at hl'; cases hl'
  · refine ⟨m, e', a, b, x, y, k1, k2, k3, k4, k5, k6, fun r hr => ?_⟩
    have := k3.pos; have := k5.pos
    obtain ⟨r', hr', hs⟩ := q.at_
    rw [hr] at hr'
    injection hr' with hr'
    subst hr'
    omega

theorem IsTree.root {t : TreeP} (h : IsTree t) {r : NodeP} (hr : t.nodes[0]? = some r) : 1 ≤ r.size ∧ r.size ≤ 64 := by
  obtain ⟨_, _, g, s, q, h1, h2⟩ := h
  obtain ⟨r', hr', hs⟩ := q.at_
  rw [hr] at hr'
  injection hr' with hr'
  subst hr'
  have := q.pos
  omega

theorem isTree_of {t : TreeP} {e h : Nat} {s : Int} {r : NodeP} (d1 : 1 ≤ t.dim) (d2 : t.dim ≤ 8) (hr : t.nodes[0]? = some r) (hs : r.size ≤ 64) (q : Sub t 0 e h s) :
    IsTree t ↔ e = t.nodes.length ∧ h ≤ logI r.size := by
  obtain ⟨r', hr', hs'⟩ := q.at_
  rw [hr] at hr'
  injection hr' with hr'
  subst hr'
  constructor
  · rintro ⟨_, _, g, s', q', h1, h2⟩
    obtain ⟨rfl, rfl, rfl⟩ := q.same q'
    exact ⟨rfl, by rw [hs']; exact h2⟩
  · rintro ⟨rfl, h2⟩
    exact ⟨d1, d2, h, s, q, by omega, by rw [← hs']; exact h2⟩

/-- The node that a vector comes to is on the left. -/
def leftB (n : NodeP) (x : List Int) : Bool := decide (dotI n.coef x < n.at_)

/-- The nodes on the way of a vector. -/
def wayT (t : TreeP) (x : List Int) : Nat → Nat → List Nat
  | 0, i => [i]
  | f + 1, i => match t.nodes[i]? with
    | none => [i]
    | some n => if n.left = 0 then [i] else i :: wayT t x f (if leftB n x then i + 1 else n.right.toNat)

theorem wayT_leaf {t : TreeP} {x : List Int} {i : Nat} {n : NodeP} (hn : t.nodes[i]? = some n) (hl : n.left = 0) (f : Nat) : wayT t x f i = [i] := by
  cases f with
  | zero => rfl
  | succ f => simp [wayT, hn, hl]

theorem wayT_node {t : TreeP} {x : List Int} {i : Nat} {n : NodeP} (hn : t.nodes[i]? = some n) (hl : ¬ n.left = 0) (f : Nat) :
    wayT t x (f + 1) i = i :: wayT t x f (if leftB n x then i + 1 else n.right.toNat) := by
  simp [wayT, hn, hl]

theorem wayT_ne (t : TreeP) (x : List Int) (f i : Nat) : wayT t x f i ≠ [] := by
  cases f with
  | zero => simp [wayT]
  | succ f =>
    rw [wayT]
    split
    · simp
    · split <;> simp

theorem Sub.way {t : TreeP} {i e h : Nat} {s : Int} (q : Sub t i e h s) (x : List Int) : ∀ f, h ≤ f → wayT t x f i = wayT t x h i ∧ (wayT t x h i).length ≤ h + 1 := by
  induction q with
  | leaf hn hl =>
    intro f hf
    rw [wayT_leaf hn (leafB_is hl).1, wayT_leaf hn (leafB_is hl).1]
    simp
  | @node i m e a b x' y n hn hl hc q1 hr q2 hs ih1 ih2 =>
    intro f hf
    obtain ⟨f, rfl⟩ : ∃ g, f = g + 1 := ⟨f - 1, by omega⟩
    have hl0 : ¬ n.left = 0 := by omega
    have hmt : n.right.toNat = m := by omega
    rw [Nat.add_comm 1 (max a b), wayT_node hn hl0, wayT_node hn hl0, hmt]
    have i1 := ih1 f (by omega); have i2 := ih1 (max a b) (by omega)
    have j1 := ih2 f (by omega); have j2 := ih2 (max a b) (by omega)
    split
    · rw [i1.1, i2.1]
      refine ⟨rfl, ?_⟩
      simp only [List.length_cons]
      omega
    · rw [j1.1, j2.1]
      refine ⟨rfl, ?_⟩
      simp only [List.length_cons]
      omega

/-- The last node on a way is a leaf. -/
theorem Sub.wayLeaf {t : TreeP} {i e h : Nat} {s : Int} (q : Sub t i e h s) (x : List Int) : ∃ j n, (wayT t x h i).getLast? = some j ∧ i ≤ j ∧ j < e ∧ t.nodes[j]? = some n ∧ leafB n = true := by
  induction q with
  | @leaf i n hn hl =>
    rw [wayT_leaf hn (leafB_is hl).1]
    exact ⟨i, n, rfl, by omega, by omega, hn, hl⟩
  | @node i m e a b x' y n hn hl hc q1 hr q2 hs ih1 ih2 =>
    have hl0 : ¬ n.left = 0 := by omega
    have hmt : n.right.toNat = m := by omega
    have l1 := q1.lt; have l2 := q2.lt
    rw [Nat.add_comm 1 (max a b), wayT_node hn hl0, hmt]
    obtain ⟨j1, n1, g1, g2, g3, g4, g5⟩ := ih1
    obtain ⟨j2, n2, k1, k2, k3, k4, k5⟩ := ih2
    split
    · rw [(q1.way x (max a b) (by omega)).1]
      refine ⟨j1, n1, ?_, by omega, by omega, g4, g5⟩
      rw [List.getLast?_cons, g1]
      rfl
    · rw [(q2.way x (max a b) (by omega)).1]
      refine ⟨j2, n2, ?_, by omega, by omega, k4, k5⟩
      rw [List.getLast?_cons, k1]
      rfl

/-- The nodes of a part, no deeper than a bound; each leaf is small. -/
inductive SubD (t : TreeP) : Nat → Nat → Nat → Int → Prop
  | leaf {d i : Nat} {n : NodeP} : t.nodes[i]? = some n → leafB n = true → n.size ≤ 64 → SubD t (d + 1) i (i + 1) n.size
  | node {d i m e : Nat} {x y : Int} {n : NodeP} : t.nodes[i]? = some n → n.left = (i : Int) + 1 → cutB n.coef n.at_ t.dim = true → SubD t d (i + 1) m x → n.right = (m : Int) → SubD t d m e y →
      n.size = x + y → SubD t (d + 1) i e n.size

theorem SubD.sub {t : TreeP} {d i e : Nat} {s : Int} (q : SubD t d i e s) : ∃ h, h < d ∧ Sub t i e h s := by
  induction q with
  | leaf hn hl _ => exact ⟨0, by omega, .leaf hn hl⟩
  | node hn hl hc _ hr _ hs ih1 ih2 =>
    obtain ⟨a, ha, q1⟩ := ih1
    obtain ⟨b, hb, q2⟩ := ih2
    exact ⟨1 + max a b, by omega, .node hn hl hc q1 hr q2 hs⟩

theorem Sub.subD {t : TreeP} {i e h : Nat} {s : Int} (q : Sub t i e h s) (hs : s ≤ 64) : ∀ d, h < d → SubD t d i e s := by
  induction q with
  | leaf hn hl =>
    intro d hd
    obtain ⟨d, rfl⟩ : ∃ k, d = k + 1 := ⟨d - 1, by omega⟩
    exact .leaf hn hl hs
  | node hn hl hc q1 hr q2 hs' ih1 ih2 =>
    intro d hd
    obtain ⟨d, rfl⟩ : ∃ k, d = k + 1 := ⟨d - 1, by omega⟩
    have := q1.pos; have := q2.pos
    exact .node hn hl hc (ih1 (by omega) d (by omega)) hr (ih2 (by omega) d (by omega)) hs'

theorem SubD.bd {t : TreeP} {d i e : Nat} {s : Int} (q : SubD t d i e s) : 1 ≤ s ∧ s ≤ 64 * (2 : Int) ^ d := by
  induction q with
  | @leaf d i n hn hl h64 =>
    have := (leafB_is hl).2.2.2.2
    have : (1 : Int) ≤ 2 ^ (d + 1) := by have := Nat.two_pow_pos (d + 1); exact_mod_cast this
    omega
  | @node d i m e x y n hn hl hc _ hr _ hs ih1 ih2 =>
    rw [Int.pow_succ]
    omega

theorem SubD.small {t : TreeP} {d i e : Nat} {s : Int} (q : SubD t d i e s) (hd : d ≤ 6) : 1 ≤ s ∧ s ≤ 4096 := by
  have h := q.bd
  have h2 := Nat.pow_le_pow_right (show 0 < 2 by omega) hd
  have h3 : ((2 ^ d : Nat) : Int) ≤ 64 := by omega
  rw [Int.natCast_pow] at h3
  have h4 : ((2 : Nat) : Int) = 2 := rfl
  rw [h4] at h3
  omega

theorem SubD.at_ {t : TreeP} {d i e : Nat} {s : Int} (q : SubD t d i e s) : ∃ n, t.nodes[i]? = some n ∧ n.size = s := by
  obtain ⟨_, _, q⟩ := q.sub
  exact q.at_

theorem SubD.same {t : TreeP} {d i e e' : Nat} {s s' : Int} (q : SubD t d i e s) (q' : SubD t d i e' s') : e = e' ∧ s = s' := by
  obtain ⟨_, _, q⟩ := q.sub
  obtain ⟨_, _, q'⟩ := q'.sub
  obtain ⟨h1, _, h3⟩ := q.same q'
  exact ⟨h1, h3⟩

open Classical in
/-- Where a part ends (-1: it is none). -/
noncomputable def endV (t : TreeP) (d i : Nat) : Int := if h : ∃ e s, SubD t d i e s then ((Classical.choose h : Nat) : Int) else -1

theorem endV_yes {t : TreeP} {d i e : Nat} {s : Int} (q : SubD t d i e s) : endV t d i = e := by
  have h : ∃ e s, SubD t d i e s := ⟨e, s, q⟩
  unfold endV
  rw [dif_pos h]
  obtain ⟨s', q'⟩ := Classical.choose_spec h
  exact congrArg _ (q'.same q).1

theorem endV_no {t : TreeP} {d i : Nat} (q : ∀ e s, ¬ SubD t d i e s) : endV t d i = -1 := by
  unfold endV
  rw [dif_neg (fun ⟨e, s, h⟩ => q e s h)]

/-- What a node that begins a part must be. -/
theorem SubD.inv {t : TreeP} {d i e : Nat} {s : Int} {n : NodeP} (q : SubD t (d + 1) i e s) (hn : t.nodes[i]? = some n) : (leafB n = true ∧ n.size ≤ 64 ∧ e = i + 1) ∨
    ∃ m x y, n.left = (i : Int) + 1 ∧ cutB n.coef n.at_ t.dim = true ∧ SubD t d (i + 1) m x ∧ n.right = (m : Int) ∧ SubD t d m e y ∧ n.size = x + y := by
  cases q with
  | leaf hn' hl h64 =>
    rw [hn] at hn'
    injection hn' with hn'
    subst hn'
    exact .inl ⟨hl, h64, rfl⟩
  | @node _ _ m _ x y _ hn' hl hc q1 hr q2 hs =>
    rw [hn] at hn'
    injection hn' with hn'
    subst hn'
    exact .inr ⟨m, x, y, hl, hc, q1, hr, q2, hs⟩

theorem isTree_end {t : TreeP} {r : NodeP} (d1 : 1 ≤ t.dim) (d2 : t.dim ≤ 8) (hr : t.nodes[0]? = some r) (hs : r.size ≤ 64) :
    IsTree t ↔ endV t (logI r.size + 1) 0 = (t.nodes.length : Int) := by
  constructor
  · rintro ⟨_, _, h, s, q, h1, h2⟩
    obtain ⟨r', hr', hs'⟩ := q.at_
    rw [hr] at hr'
    injection hr' with hr'
    subst hr'
    exact endV_yes (q.subD h1 _ (by rw [hs']; omega))
  · intro h
    by_cases hq : ∃ e s, SubD t (logI r.size + 1) 0 e s
    · obtain ⟨e, s, q⟩ := hq
      rw [endV_yes q] at h
      obtain ⟨g, hg, q⟩ := q.sub
      obtain ⟨r', hr', hs'⟩ := q.at_
      rw [hr] at hr'
      injection hr' with hr'
      subst hr'
      have : e = t.nodes.length := by omega
      subst this
      exact ⟨d1, d2, g, s, q, by omega, by rw [← hs']; omega⟩
    · rw [endV_no (fun e s q => hq ⟨e, s, q⟩)] at h
      omega
end Go.Proofs.Ytopodhcgfmpphaa
