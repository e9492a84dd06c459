/-
  Plain laws of layer 16: the steps of a way, and the room of a column.
-/
import Derived.Test.YtopodhcgfmpphaaPathB
import Derived.Test.YtopodhcgfmpphaaNumB
namespace Go.Proofs.Ytopodhcgfmpphaa
open Go.RowKit

/-- The inner nodes on the way of a vector. -/
def stepsT (t : TreeP) (x : List Int) : Nat → Nat → List NodeP
  | 0, _ => []
  | f + 1, i => match t.nodes[i]? with
    | none => []
    | some n => if n.left = 0 then [] else n :: stepsT t x f (if leftB n x then i + 1 else n.right.toNat)

theorem stepsT_leaf {t : TreeP} {x : List Int} {i : Nat} {n : NodeP} (hn : t.nodes[i]? = some n) (hl : n.left = 0) (f : Nat) : stepsT t x f i = [] := by
  cases f with
  | zero => rfl
  | succ f => simp [stepsT, hn, hl]

theorem stepsT_node {t : TreeP} {x : List Int} {i : Nat} {n : NodeP} (hn : t.nodes[i]? = some n) (hl : ¬ n.left = 0) (f : Nat) :
    stepsT t x (f + 1) i = n :: stepsT t x f (if leftB n x then i + 1 else n.right.toNat) := by
  simp [stepsT, hn, hl]

/-- What a step is. -/
def StepOk (t : TreeP) (x : List Int) (l : List Nat) (k : Nat) (n : NodeP) : Prop :=
  ∃ j m : Nat, l[k]? = some j ∧ t.nodes[j]? = some n ∧ n.left = (j : Int) + 1 ∧ n.right = (m : Int) ∧ j + 1 < m ∧ cutB n.coef n.at_ t.dim = true ∧ l[k + 1]? = some (if leftB n x then j + 1 else m)

theorem StepOk.cons {t : TreeP} {x : List Int} {l : List Nat} {k : Nat} {n : NodeP} (h : StepOk t x l k n) (i : Nat) : StepOk t x (i :: l) (k + 1) n := h

theorem Sub.steps {t : TreeP} {i e h : Nat} {s : Int} (q : Sub t i e h s) (x : List Int) : ∀ f, h ≤ f →
    (stepsT t x f i).length + 1 = (wayT t x f i).length ∧ ∀ k n, (stepsT t x f i)[k]? = some n → StepOk t x (wayT t x f i) k n := by
  induction q with
  | leaf hn hl =>
    intro f _
    rw [wayT_leaf hn (leafB_is hl).1, stepsT_leaf hn (leafB_is hl).1]
    exact ⟨rfl, fun k n h => by simp at h⟩
  | @node i m e a b x' y n hn hl hc q1 hr q2 hs ih1 ih2 =>
    intro f hf
    obtain ⟨f, rfl⟩ : ∃ g, f = g + 1 := ⟨f - 1, by omega⟩
    have hl0 : ¬ n.left = 0 := by omega
    have hmt : n.right.toNat = m := by omega
    have l1 := q1.lt
    rw [wayT_node hn hl0, stepsT_node hn hl0, hmt]
    obtain ⟨i1, i2⟩ := ih1 f (by omega)
    obtain ⟨j1, j2⟩ := ih2 f (by omega)
    cases hb : leftB n x with
    | true =>
      refine ⟨by simpa using i1, fun k nn hk => ?_⟩
      cases k with
      | zero =>
        injection hk with hk
        subst hk
        refine ⟨i, m, rfl, hn, hl, hr, by omega, hc, ?_⟩
        rw [hb]
        exact wayT_head _ _ _ _
      | succ k => exact (i2 k nn (by simpa using hk)).cons i
    | false =>
      refine ⟨by simpa using j1, fun k nn hk => ?_⟩
      cases k with
      | zero =>
        injection hk with hk
        subst hk
        refine ⟨i, m, rfl, hn, hl, hr, by omega, hc, ?_⟩
        rw [hb]
        exact wayT_head _ _ _ _
      | succ k => exact (j2 k nn (by simpa using hk)).cons i

/-- The way is the same just if each step is. -/
theorem Sub.wayEq {t : TreeP} {i e h : Nat} {s : Int} (q : Sub t i e h s) (x y : List Int) : ∀ f, h ≤ f →
    (wayT t x f i = wayT t y f i ↔ ∀ n ∈ stepsT t x f i, leftB n y = leftB n x) := by
  induction q with
  | leaf hn hl =>
    intro f _
    rw [wayT_leaf hn (leafB_is hl).1, wayT_leaf hn (leafB_is hl).1, stepsT_leaf hn (leafB_is hl).1]
    simp
  | @node i m e a b x' y' n hn hl hc q1 hr q2 hs ih1 ih2 =>
    intro f hf
    obtain ⟨f, rfl⟩ : ∃ g, f = g + 1 := ⟨f - 1, by omega⟩
    have hl0 : ¬ n.left = 0 := by omega
    have hmt : n.right.toNat = m := by omega
    have l1 := q1.lt
    rw [wayT_node hn hl0, wayT_node hn hl0, stepsT_node hn hl0, hmt]
    have i1 := ih1 f (by omega)
    have j1 := ih2 f (by omega)
    have hne : wayT t x f (i + 1) ≠ wayT t y f m := by
      intro h
      have h1 := wayT_head t x f (i + 1)
      rw [h, wayT_head] at h1
      injection h1 with h1
      omega
    have hne2 : wayT t x f m ≠ wayT t y f (i + 1) := by
      intro h
      have h1 := wayT_head t x f m
      rw [h, wayT_head] at h1
      injection h1 with h1
      omega
    cases hb : leftB n x <;> cases hy : leftB n y <;> simp [hb, hy, i1, j1, hne, hne2]

def stepL (t : TreeP) (x : List Int) : List NodeP := stepsT t x 6 0

theorem stepL_ok {t : TreeP} (h : treeB t = true) (x : List Int) : (stepL t x).length + 1 = (wayL t x).length ∧ (stepL t x).length ≤ 6 ∧ ∀ k n, (stepL t x)[k]? = some n → StepOk t x (wayL t x) k n := by
  obtain ⟨_, _, g, s, q, h1, h2⟩ := treeB_true.1 h
  have h6 : g ≤ 6 := Nat.le_trans h2 (logI_le h1)
  obtain ⟨a, b⟩ := q.steps x 6 h6
  obtain ⟨c, d⟩ := q.way x 6 h6
  refine ⟨a, ?_, b⟩
  have : (wayT t x 6 0).length ≤ g + 1 := by rw [c]; exact d
  unfold stepL
  omega

theorem way_same {t : TreeP} (h : treeB t = true) (x y : List Int) : wayL t x = wayL t y ↔ ∀ n ∈ stepL t x, leftB n y = leftB n x := by
  obtain ⟨_, _, g, s, q, h1, h2⟩ := treeB_true.1 h
  exact q.wayEq x y 6 (Nat.le_trans h2 (logI_le h1))

theorem lenV_same {t : TreeP} {x y : List Int} (h : wayL t x = wayL t y) : lenV t x = lenV t y := by
  unfold lenV
  rw [h]

theorem dotI_set : ∀ (c x : List Int) (k : Nat) (v : Int), k < c.length → k < x.length → dotI c (x.set k v) = dotI c x - c.getD k 0 * x.getD k 0 + c.getD k 0 * v
  | [], _, k, _, h, _ => by simp at h
  | _ :: _, [], k, _, _, h => by simp at h
  | a :: c, b :: x, 0, v, _, _ => by simp [dotI]; omega
  | a :: c, b :: x, k + 1, v, h1, h2 => by
    have := dotI_set c x k v (by simpa using h1) (by simpa using h2)
    simp [dotI] at *
    omega

/-- What a step leaves of the room of a column. -/
def partP (x : List Int) (n : NodeP) (c : Nat) : Int := if leftB n x then n.coef.getD c 0 else -n.coef.getD c 0
def restP (x : List Int) (n : NodeP) (c : Nat) : Int := dotI n.coef x - n.coef.getD c 0 * x.getD c 0
def boundP (x : List Int) (n : NodeP) (c : Nat) : Int := if leftB n x then n.at_ - 1 - restP x n c else restP x n c - n.at_
def narrowP (x : List Int) (c : Nat) (r : Int × Int) (n : NodeP) : Int × Int :=
  if n.coef.getD c 0 = 0 then r else
  if 0 < partP x n c then (r.1, min r.2 (divQ (boundP x n c) (partP x n c))) else (max r.1 (ceilV (-boundP x n c) (-partP x n c)), r.2)

theorem ceilV_le {a b v : Int} (hb : 0 < b) : ceilV a b ≤ v ↔ a ≤ b * v := by
  unfold ceilV
  rw [if_neg (by omega)]
  have h0 := Int.emod_nonneg a (show b ≠ 0 by omega)
  have h1 := Int.emod_lt_of_pos a hb
  have h2 := Int.mul_ediv_add_emod a b
  constructor
  · intro h
    split at h
    · have := Int.mul_le_mul_of_nonneg_left h (show 0 ≤ b by omega)
      rw [Int.mul_add, Int.mul_one] at this
      omega
    · have := Int.mul_le_mul_of_nonneg_left h (show 0 ≤ b by omega)
      omega
  · intro h
    have h3 : b * (a / b) ≤ b * v := by omega
    have h4 := Int.le_of_mul_le_mul_left h3 hb
    split
    · rcases Int.lt_or_eq_of_le h4 with h5 | h5
      · omega
      · rw [h5] at h2; omega
    · exact h4

theorem le_divQ {a b v : Int} (hb : 0 < b) : v ≤ divQ a b ↔ b * v ≤ a := by
  unfold divQ
  rw [if_neg (by omega), Int.le_ediv_iff_mul_le hb, Int.mul_comm]

theorem leftB_set {x : List Int} {n : NodeP} {c : Nat} {v : Int} (h1 : c < n.coef.length) (h2 : c < x.length) :
    leftB n (x.set c v) = leftB n x ↔ partP x n c * v ≤ boundP x n c := by
  unfold boundP partP restP
  cases hb : leftB n x with
  | true =>
    simp only [if_true]
    unfold leftB
    rw [dotI_set _ _ _ _ h1 h2, decide_eq_true_eq]
    omega
  | false =>
    simp only [Bool.false_eq_true, if_false]
    unfold leftB
    rw [dotI_set _ _ _ _ h1 h2, decide_eq_false_iff_not, Int.neg_mul]
    omega

theorem narrow_in {x : List Int} {n : NodeP} {c : Nat} {v : Int} {r : Int × Int} (h1 : c < n.coef.length) (h2 : c < x.length) :
    ((narrowP x c r n).1 ≤ v ∧ v ≤ (narrowP x c r n).2) ↔ (r.1 ≤ v ∧ v ≤ r.2) ∧ leftB n (x.set c v) = leftB n x := by
  rw [leftB_set h1 h2]
  unfold narrowP
  split
  · next h0 =>
    have hp : partP x n c = 0 := by unfold partP; rw [h0]; split <;> rfl
    rw [hp, Int.zero_mul]
    refine ⟨fun h => ⟨h, ?_⟩, fun h => h.1⟩
    have h5 := (leftB_set (v := x.getD c 0) h1 h2).1 (by
      have : x.set c (x.getD c 0) = x := by rw [List.getD_eq_getElem?_getD, List.getElem?_eq_getElem h2]; simp
      rw [this])
    rw [hp, Int.zero_mul] at h5
    exact h5
  · next h0 =>
    have hp : partP x n c ≠ 0 := by unfold partP; split <;> omega
    split
    · next h3 =>
      rw [← le_divQ h3]
      simp only
      omega
    · next h3 =>
      have h4 : 0 < -partP x n c := by omega
      have h5 := ceilV_le (a := -boundP x n c) (v := v) h4
      rw [Int.neg_mul] at h5
      simp only
      omega

theorem narrow_bd (x : List Int) (c : Nat) (r : Int × Int) (n : NodeP) : r.1 ≤ (narrowP x c r n).1 ∧ (narrowP x c r n).2 ≤ r.2 := by
  unfold narrowP
  split
  · exact ⟨Int.le_refl _, Int.le_refl _⟩
  · split
    · simp only; omega
    · simp only; omega

def all0 : Int × Int := (-2147483648, 2147483647)
def roomF (x : List Int) (c : Nat) (l : List NodeP) : Int × Int := l.foldl (narrowP x c) all0
def roomP (t : TreeP) (x : List Int) (c : Nat) : Int × Int := roomF x c (stepL t x)

theorem fold_in {x : List Int} {c : Nat} {v : Int} (h2 : c < x.length) : ∀ (l : List NodeP) (r : Int × Int), (∀ n ∈ l, c < n.coef.length) →
    (((l.foldl (narrowP x c) r).1 ≤ v ∧ v ≤ (l.foldl (narrowP x c) r).2) ↔ (r.1 ≤ v ∧ v ≤ r.2) ∧ ∀ n ∈ l, leftB n (x.set c v) = leftB n x)
  | [], r, _ => by simp
  | n :: l, r, h => by
    rw [List.foldl_cons, fold_in h2 l _ (fun m hm => h m (by simp [hm])), narrow_in (h n (by simp)) h2]
    simp only [List.mem_cons, forall_eq_or_imp, and_assoc]

theorem fold_bd (x : List Int) (c : Nat) : ∀ (l : List NodeP) (r : Int × Int), r.1 ≤ (l.foldl (narrowP x c) r).1 ∧ (l.foldl (narrowP x c) r).2 ≤ r.2
  | [], r => ⟨Int.le_refl _, Int.le_refl _⟩
  | n :: l, r => by
    have h1 := narrow_bd x c r n
    have h2 := fold_bd x c l (narrowP x c r n)
    rw [List.foldl_cons]
    omega

theorem step_coef {t : TreeP} (h : treeB t = true) {x : List Int} {n : NodeP} (hn : n ∈ stepL t x) : (n.coef.length : Int) = t.dim ∧ n.coef.all isC = true ∧ -137438953472 ≤ n.at_ ∧ n.at_ ≤ 137438953472 := by
  obtain ⟨k, hk⟩ := List.getElem?_of_mem hn
  obtain ⟨j, m, _, _, _, _, _, hc, _⟩ := (stepL_ok h x).2.2 k n hk
  rw [cutB_is] at hc
  simp only [Bool.and_eq_true, decide_eq_true_eq] at hc
  obtain ⟨_, _, h3, h4⟩ := partsB_yes hc.2
  exact ⟨h3, h4, hc.1.1, hc.1.2⟩

theorem room_in {t : TreeP} (h : treeB t = true) {x : List Int} (hx : vecB x t.dim = true) {c : Nat} (hc : c < x.length) (v : Int) :
    ((roomP t x c).1 ≤ v ∧ v ≤ (roomP t x c).2) ↔ (-2147483648 ≤ v ∧ v ≤ 2147483647) ∧ wayL t x = wayL t (x.set c v) := by
  obtain ⟨_, _, h3, _⟩ := vecB_yes hx
  rw [way_same h]
  exact fold_in hc _ _ fun n hn => by have := (step_coef h hn).1; omega

theorem room_bd (t : TreeP) (x : List Int) (c : Nat) : -2147483648 ≤ (roomP t x c).1 ∧ (roomP t x c).2 ≤ 2147483647 := fold_bd x c _ all0

theorem set_self {x : List Int} {c : Nat} (hc : c < x.length) : x.set c (x.getD c 0) = x := by
  rw [List.getD_eq_getElem?_getD, List.getElem?_eq_getElem hc]; simp

theorem vec_at {x : List Int} {dim : Int} (hx : vecB x dim = true) {c : Nat} (hc : c < x.length) : -2147483648 ≤ x.getD c 0 ∧ x.getD c 0 ≤ 2147483647 := by
  obtain ⟨_, _, _, h4⟩ := vecB_yes hx
  obtain ⟨v, hv⟩ := getElem?_ex hc
  have := all_at h4 hv
  rw [getD_of hv]
  unfold isV at this
  simpa using this

theorem vec_set {x : List Int} {dim : Int} (hx : vecB x dim = true) (c : Nat) {v : Int} (h1 : -2147483648 ≤ v) (h2 : v ≤ 2147483647) : vecB (x.set c v) dim = true := by
  obtain ⟨a, b, h3, h4⟩ := vecB_yes hx
  rw [vecB_is, Bool.and_eq_true]
  refine ⟨pre_yes a b (by simpa using h3), ?_⟩
  rw [List.all_eq_true] at *
  intro y hy
  rcases List.mem_or_eq_of_mem_set hy with hy | rfl
  · exact h4 y hy
  · unfold isV; simp [h1, h2]

theorem room_self {t : TreeP} (h : treeB t = true) {x : List Int} (hx : vecB x t.dim = true) {c : Nat} (hc : c < x.length) :
    (roomP t x c).1 ≤ x.getD c 0 ∧ x.getD c 0 ≤ (roomP t x c).2 :=
  (room_in h hx hc _).2 ⟨vec_at hx hc, by rw [set_self hc]⟩

/-- How many steps ask a column. -/
def cntP (l : List NodeP) (c : Nat) : Nat := (l.filter fun n => decide (n.coef.getD c 0 ≠ 0)).length

def cntI (t : TreeP) (x : List Int) (c : Nat) : Int := (cntP (stepL t x) c : Int)
def cntL (t : TreeP) (x : List Int) : List Int := (List.range t.dim.toNat).map (cntI t x)

theorem cntP_snoc (l : List NodeP) (n : NodeP) (c : Nat) : cntP (l ++ [n]) c = cntP l c + if n.coef.getD c 0 = 0 then 0 else 1 := by
  unfold cntP
  rw [List.filter_append, List.length_append]
  by_cases h : n.coef.getD c 0 = 0
  · rw [if_pos h, List.filter_cons_of_neg (by simpa using h)]; rfl
  · rw [if_neg h, List.filter_cons_of_pos (by simpa using h)]; rfl

theorem cntP_le (l : List NodeP) (c : Nat) : cntP l c ≤ l.length := List.length_filter_le _ _
end Go.Proofs.Ytopodhcgfmpphaa
