/-
  A region that draws its order: three operations that look at no memory, a forced head (calls), behind it operations that only read.
-/
import Derived.Test.YtopodhcgfmpphaaTail
namespace Go.Proofs.Ytopodhcgfmpphaa
open Go.RowKit

/-- What stands behind a forced head: a walk that only reads. -/
inductive CalmNext (P : Program) (ops : Array Oper) (Q : Exit → Act → World → Prop) (l : List Oper) : Exit → Act → World → Prop
  | normal {a : Act} {w : World} : wpQuiet P ops (fun w' => ∃ n, w' = w.drewN n) (fun a' => ∀ w', (∃ n, w' = w.drewN n) → Q .normal a' w') l a → CalmNext P ops Q l .normal a w
  | other {e : Exit} {a : Act} {w : World} : e ≠ .normal → Q e a w → CalmNext P ops Q l e a w

theorem wpAny_of_head_calm {P : Program} {md : Region.Mode} {ops : Array Oper} {Q : Exit → Act → World → Prop} {rest : List Oper} (hs : Region.noSelect ops = true) (m : Nat) (hrest : ∀ j, rest[j]? = ops[m + j]?) :
    ∀ (l : List Oper) (k : Nat) (listed : Array Bool) (a : Act) (w : World), k + l.length = m → (∀ j, j < l.length → l[j]? = ops[k + j]?) → headB md ops l.length k listed = true →
      Region.lexFrom md ops rest.length m (markB l.length k listed) = true → wpList P ops (CalmNext P ops Q rest) l a w → wpAny P md ops Q (l.length + rest.length) listed a w
  | [], k, listed, a, w, hk, _, _, hlex, h => by
    rw [List.length_nil, Nat.zero_add]
    refine wpAny_of_quiet (C := fun w' => ∃ n, w' = w.drewN n) (Q := fun a' => ∀ w', (∃ n, w' = w.drewN n) → Q .normal a' w') (fun _ w' hw' h => h w' hw') _ _ _ _ ⟨0, rfl⟩ ?_
    have h' : CalmNext P ops Q rest .normal a w := h
    cases h' with
    | normal h' => exact wpAnyQ_lex hs rest m listed a hrest hlex h'
    | other hne _ => exact absurd rfl hne
  | o :: l, k, listed, a, w, hk, hl, hB, hlex, h => by
    have h0 : ops[k]? = some o := by have := hl 0 (by simp); simpa using this.symm
    simp only [List.length_cons, headB, Bool.and_eq_true, decide_eq_true_eq] at hB
    rw [List.length_cons, show l.length + 1 + rest.length = l.length + rest.length + 1 by omega]
    refine ⟨fun h1 => (by rw [hB.1] at h1; cases h1), fun i hi => ?_⟩
    rw [hB.1] at hi
    obtain rfl : i = k := by simpa using hi
    have hq : ∀ e a w, e ≠ .normal → CalmNext P ops Q rest e a w → Q e a w := fun e a w he hh => by
      cases hh with
      | normal _ => exact absurd rfl he
      | other _ h => exact h
    have hw : wpOp P ops Q i (wpList P ops (CalmNext P ops Q rest) l) a w := by
      unfold wpList at h
      unfold wpOp
      simp only [h0]
      split
      · rename_i hwant
        rw [if_pos hwant] at h
        rcases h with h | ⟨h1, a', w', h2⟩
        · exact .inl (wp_q hq h)
        · exact .inr ⟨h1, a', w', hq _ _ _ (by simp) h2⟩
      · rename_i hwant
        rw [if_neg hwant] at h
        exact h
    exact wpOp_mono (fun a' w' h' => wpAny_of_head_calm hs m hrest l (i + 1) _ a' w' (by simp at hk; omega) (fun j hj => by have := hl (j + 1) (by simp; omega); simpa [Nat.add_assoc, Nat.add_comm 1 j] using this) hB.2 hlex h') hw

/-- The same behind three operations that look at no memory (a value, an index, an address). -/
theorem wp_region_free_head_quiet {P : Program} {id : Nat} {Q : Exit → Act → World → Prop} {a : Act} {w : World} {o0 o1 o2 : Oper} {l : List Oper} (v0 v1 v2 : Value) (n : Nat) (hm : P.follows .mixedOrders = true)
    (hs : Region.noSelect (o0 :: o1 :: o2 :: l).toArray = true)
    (hf0 : (Region.free .any (o0 :: o1 :: o2 :: l).toArray (Array.replicate (l.length + 3) false) 0 && (Region.ready .any (o0 :: o1 :: o2 :: l).toArray (Array.replicate (l.length + 3) false)).contains 0) = true)
    (hf1 : (Region.free .any (o0 :: o1 :: o2 :: l).toArray ((Array.replicate (l.length + 3) false).setIfInBounds 0 true) 1 && (Region.ready .any (o0 :: o1 :: o2 :: l).toArray ((Array.replicate (l.length + 3) false).setIfInBounds 0 true)).contains 1) = true)
    (hf2 : (Region.free .any (o0 :: o1 :: o2 :: l).toArray (((Array.replicate (l.length + 3) false).setIfInBounds 0 true).setIfInBounds 1 true) 2 && (Region.ready .any (o0 :: o1 :: o2 :: l).toArray (((Array.replicate (l.length + 3) false).setIfInBounds 0 true).setIfInBounds 1 true)).contains 2) = true)
    (hn : n ≤ l.length)
    (hB : (headB .any (o0 :: o1 :: o2 :: l).toArray n 3 ((((Array.replicate (l.length + 3) false).setIfInBounds 0 true).setIfInBounds 1 true).setIfInBounds 2 true) &&
      Region.lexFrom .any (o0 :: o1 :: o2 :: l).toArray (l.length - n) (3 + n) (markB n 3 ((((Array.replicate (l.length + 3) false).setIfInBounds 0 true).setIfInBounds 1 true).setIfInBounds 2 true))) = true)
    (hQ0 : ∀ c a w, Q (.panic c) (a.put o0.dst v0) w → Q (.panic c) a w) (hQ1 : ∀ c a w, Q (.panic c) (a.put o1.dst v1) w → Q (.panic c) a w) (hQ2 : ∀ c a w, Q (.panic c) (a.put o2.dst v2) w → Q (.panic c) a w)
    (hy0 : Yields P (o0 :: o1 :: o2 :: l).toArray o0 v0 a) (hy1 : Yields P (o0 :: o1 :: o2 :: l).toArray o1 v1 (a.put o0.dst v0)) (hy2 : Yields P (o0 :: o1 :: o2 :: l).toArray o2 v2 ((a.put o0.dst v0).put o1.dst v1))
    (h : wpList P (o0 :: o1 :: o2 :: l).toArray (CalmNext P (o0 :: o1 :: o2 :: l).toArray Q (l.drop n)) (l.take n) (((a.put o0.dst v0).put o1.dst v1).put o2.dst v2) w.drew) : (Code.region id (o0 :: o1 :: o2 :: l).toArray true).wp P Q a w := by
  simp only [Bool.and_eq_true] at hf0 hf1 hf2 hB
  refine wp_region_any hm ?_
  rw [show (o0 :: o1 :: o2 :: l).toArray.size = l.length + 3 by simp]
  refine wpAny_take (i := 0) (v := v0) rfl hs hf0.1 hf0.2 hQ0 hy0 ?_
  refine wpAny_take (i := 1) (v := v1) rfl hs hf1.1 hf1.2 hQ1 hy1 ?_
  refine wpAny_take (i := 2) (v := v2) rfl hs hf2.1 hf2.2 hQ2 hy2 ?_
  have e1 : (l.take n).length = n := by simp; omega
  have e2 : (l.drop n).length = l.length - n := by simp
  have := wpAny_of_head_calm (P := P) (md := .any) (ops := (o0 :: o1 :: o2 :: l).toArray) (Q := Q) (rest := l.drop n) hs (3 + n) (fun j => by rw [List.getElem?_drop]; simp [show 3 + n + j = n + j + 1 + 1 + 1 by omega]) (l.take n) 3 _ _ w.drew (by rw [e1])
    (fun j hj => by rw [e1] at hj; simp [hj, show 3 + j = j + 1 + 1 + 1 by omega]) (by rw [e1]; exact hB.1) (by rw [e1, e2]; exact hB.2) h
  rw [e1, e2, show n + (l.length - n) = l.length by omega] at this
  exact this
end Go.Proofs.Ytopodhcgfmpphaa
