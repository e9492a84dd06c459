/-
  A region that draws its order: the operations that only read first, in the text's order, then the forced tail.
-/
import Derived.Test.YtoljilbldkbjpaaKit
import Derived.StillTailTactics
import Derived.Deep.Quiet
namespace Go.Proofs.Ytoljilbldkbjpaa
open Go.RowKit

theorem wpStill_of_quiet {P : Program} {ops : Array Oper} {W : World} {Q : Act → Prop} : ∀ (l : List Oper) (a : Act), wpQuiet P ops (fun w' => w' = W) Q l a → wpStill P ops W Q l a
  | [], _, h => h
  | o :: rest, a, h => by
    unfold wpQuiet at h
    unfold wpStill
    split
    · rename_i hw
      rw [if_pos hw] at h
      obtain ⟨v, hq, hn⟩ := h
      have hq := hq W rfl
      unfold Oper.quietAt at hq
      unfold Oper.still
      generalize (execOp a.eval o).run P W = r at hq
      cases r with
      | ok n w' =>
        cases n with
        | value u => obtain ⟨h1, h2⟩ := hq; subst h2; exact ⟨h1, wpStill_of_quiet rest _ hn⟩
        | skip => obtain ⟨h1, h2⟩ := hq; subst h2; exact ⟨h1, wpStill_of_quiet rest _ hn⟩
        | enter f args => obtain ⟨h1, h2⟩ := hq; exact ⟨h1, v, h2, wpStill_of_quiet rest _ hn⟩
        | _ => exact hq.elim
      | halt x w' => exact hq.elim
    · rename_i hw
      rw [if_neg hw] at h
      exact wpStill_of_quiet rest _ h

theorem wp_region_tail_quiet {P : Program} {id : Nat} {Q : Exit → Act → World → Prop} {a : Act} {w : World} {l : List Oper} (n : Nat) (hm : P.follows .mixedOrders = true) (hB : Region.lexTailB .any l.toArray n = true)
    (h : wpQuiet P l.toArray (fun w' => w' = w.drew) (fun a' => wpList P l.toArray Q (l.drop n) a' w.drew) (l.take n) a) : (Code.region id l.toArray true).wp P Q a w :=
  wp_region_still_tail n hm hB (wpStill_of_quiet _ _ h)

/-- The first n operations from k on come up one by one, forced. -/
def headB (md : Region.Mode) (ops : Array Oper) : Nat → Nat → Array Bool → Bool
  | 0, _, _ => true
  | n + 1, k, listed => decide (Region.ready md ops listed = [k]) && headB md ops n (k + 1) (listed.setIfInBounds k true)
def markB : Nat → Nat → Array Bool → Array Bool
  | 0, _, listed => listed
  | n + 1, k, listed => markB n (k + 1) (listed.setIfInBounds k true)

/-- What stands behind a forced head: a walk that only reads. -/
def QuietNext (P : Program) (ops : Array Oper) (Q : Exit → Act → World → Prop) (l : List Oper) : Exit → Act → World → Prop
  | .normal, a, w => wpQuiet P ops (fun w' => ∃ n, w' = w.drewN n) (fun a' => ∀ w', (∃ n, w' = w.drewN n) → Q .normal a' w') l a
  | e, a, w => Q e a w

theorem QuietNext.of {P : Program} {ops : Array Oper} {Q : Exit → Act → World → Prop} {l : List Oper} {a : Act} {w : World}
    (h : wpQuiet P ops (fun w' => ∃ n, w' = w.drewN n) (fun a' => ∀ w', (∃ n, w' = w.drewN n) → Q .normal a' w') l a) : QuietNext P ops Q l .normal a w := h

theorem wp_q {P : Program} {o : Oper} {a : Act} {w : World} {K : Act → World → Prop} {Q Q' : Exit → Act → World → Prop} (h : ∀ e a w, e ≠ .normal → Q e a w → Q' e a w) (hh : o.wp P a w K Q) : o.wp P a w K Q' := by
  unfold Oper.wp at *
  generalize (execOp a.eval o).run P w = r at *
  cases r with
  | ok n w' =>
    cases n <;> simp only [Oper.upon] at hh ⊢ <;>
      first
        | exact hh
        | exact Calls.mono hh (fun e w'' he => by
            cases e with
            | returned v => exact he
            | panicked c => exact h _ _ _ (by simp) he
            | outgrown => obtain ⟨a, w, g⟩ := he; exact ⟨a, w, h _ _ _ (by simp) g⟩)
  | halt x w' =>
    cases x <;> simp only [Oper.upon] at hh ⊢ <;> first | exact hh | exact h _ _ _ (by simp) hh

theorem wpAny_of_head_quiet {P : Program} {md : Region.Mode} {ops : Array Oper} {Q : Exit → Act → World → Prop} {rest : List Oper} (hs : Region.noSelect ops = true) (m : Nat) (hrest : ∀ j, rest[j]? = ops[m + j]?) :
    ∀ (l : List Oper) (k : Nat) (listed : Array Bool) (a : Act) (w : World), k + l.length = m → (∀ j, j < l.length → l[j]? = ops[k + j]?) → headB md ops l.length k listed = true →
      Region.lexFrom md ops rest.length m (markB l.length k listed) = true → wpList P ops (QuietNext P ops Q rest) l a w → wpAny P md ops Q (l.length + rest.length) listed a w
  | [], k, listed, a, w, hk, _, _, hlex, h => by
    rw [List.length_nil, Nat.zero_add]
    refine wpAny_of_quiet (C := fun w' => ∃ n, w' = w.drewN n) (Q := fun a' => ∀ w', (∃ n, w' = w.drewN n) → Q .normal a' w') (fun _ w' hw' h => h w' hw') _ _ _ _ ⟨0, rfl⟩ ?_
    exact wpAnyQ_lex hs rest m listed a hrest hlex h
  | o :: l, k, listed, a, w, hk, hl, hB, hlex, h => by
    have h0 : ops[k]? = some o := by have := hl 0 (by simp); simpa using this.symm
    simp only [List.length_cons, headB, Bool.and_eq_true, decide_eq_true_eq] at hB
    rw [List.length_cons, show l.length + 1 + rest.length = l.length + rest.length + 1 by omega]
    refine ⟨fun h1 => (by rw [hB.1] at h1; cases h1), fun i hi => ?_⟩
    rw [hB.1] at hi
    obtain rfl : i = k := by simpa using hi
    have hq : ∀ e a w, e ≠ .normal → QuietNext P ops Q rest e a w → Q e a w := fun e a w he hh => by cases e <;> first | exact hh | exact absurd rfl he
    have hw : wpOp P ops Q i (wpList P ops (QuietNext P ops Q rest) l) a w := by
      unfold wpList at h
      unfold wpOp
      simp only [h0]
      split
      · rename_i hwant
        rw [if_pos hwant] at h
        rcases h with h | ⟨h1, a', w', h2⟩
        · exact .inl (wp_q hq h)
        · exact .inr ⟨h1, a', w', hq _ _ _ (by simp) h2⟩
      · rename_i hwant
        rw [if_neg hwant] at h
        exact h
    exact wpOp_mono (fun a' w' h' => wpAny_of_head_quiet hs m hrest l (i + 1) _ a' w' (by simp at hk; omega) (fun j hj => by have := hl (j + 1) (by simp; omega); simpa [Nat.add_assoc, Nat.add_comm 1 j] using this) hB.2 hlex h') hw

def headQuietB (ops : Array Oper) (n : Nat) : Bool :=
  Region.noSelect ops && decide (n ≤ ops.size) && headB .any ops n 0 (Array.replicate ops.size false) && Region.lexFrom .any ops (ops.size - n) n (markB n 0 (Array.replicate ops.size false))

/-- A region that draws its order: a forced head (calls), behind it operations that only read. -/
theorem wp_region_head_quiet {P : Program} {id : Nat} {Q : Exit → Act → World → Prop} {a : Act} {w : World} {l : List Oper} (n : Nat) (hm : P.follows .mixedOrders = true) (hB : headQuietB l.toArray n = true)
    (h : wpList P l.toArray (QuietNext P l.toArray Q (l.drop n)) (l.take n) a w.drew) : (Code.region id l.toArray true).wp P Q a w := by
  simp only [headQuietB, Bool.and_eq_true, decide_eq_true_eq] at hB
  obtain ⟨⟨⟨h1, h2⟩, h3⟩, h4⟩ := hB
  have h2' : n ≤ l.length := by simpa using h2
  have e1 : (l.take n).length = n := by simp; omega
  have e2 : (l.drop n).length = l.length - n := by simp
  refine wp_region_any hm ?_
  have e3 : l.toArray.size = (l.take n).length + (l.drop n).length := by rw [e1, e2]; simp; omega
  have := wpAny_of_head_quiet (P := P) (md := .any) (ops := l.toArray) (Q := Q) (rest := l.drop n) h1 n (fun j => by simp [List.getElem?_drop]) (l.take n) 0 (Array.replicate l.toArray.size false) a w.drew (by rw [e1]; omega)
    (fun j hj => by rw [e1] at hj; simp [hj]) (by rw [e1]; exact h3) (by rw [e1, e2]; simpa using h4) h
  rw [← e3] at this
  exact this
end Go.Proofs.Ytoljilbldkbjpaa
