/-
  BagQ: A bag as a sorted list: what each act makes of it.
-/
import Derived.Test.YtjmjnkilgoelbaaKBagN
import Derived.Test.YtjmjnkilgoelbaaJ2a
import Derived.Test.YtjmjnkilgoelbaaKBagI
namespace Go.Proofs.Ytjmjnkilgoelbaa
open Go.RowKit

/-- A bag lies at P in the blocks F; it holds l. -/
def BagIn (w : World) (P : Nat) (F : List Nat) (l : List (Int × Int)) : Prop :=
  ∃ v vs bs, F = P :: blks v vs ∧ BagAt w P v vs bs bs.flatten.length ∧ BagP bs ∧ bs.flatten = l

def putE (l : List (Int × Int)) (s : Int × Int) : Int := if scoreB s = true then (if 4096 ≤ l.length then 3 else 0) else 130
def putS (l : List (Int × Int)) (s : Int × Int) : List (Int × Int) := if putE l s = 0 then insS l s else l
def takE (l : List (Int × Int)) (s : Int × Int) : Int := if scoreB s = true then (if s ∈ l then 0 else 4) else 130
def takS (l : List (Int × Int)) (s : Int × Int) : List (Int × Int) := if takE l s = 0 then l.erase s else l

/-- What holds of the scores of a bag. -/
structure Scores (l : List (Int × Int)) : Prop where
  sort : SortedS l
  all : allS l = true
  most : l.length ≤ 4096

theorem BagIn.scores {w : World} {P : Nat} {F : List Nat} {l : List (Int × Int)} (h : BagIn w P F l) : Scores l := by
  obtain ⟨v, vs, bs, _, _, hp, rfl⟩ := h
  exact ⟨hp.sort, hp.all, hp.most⟩

theorem BagIn.lt {w : World} {P : Nat} {F : List Nat} {l : List (Int × Int)} (h : BagIn w P F l) {b : Nat} (hb : b ∈ F) : b < w.heap.size := by
  obtain ⟨v, vs, bs, rfl, hB, _, _⟩ := h
  exact hB.foot hb

theorem BagIn.keep {w w' : World} {P : Nat} {F : List Nat} {l : List (Int × Int)} (h : BagIn w P F l) (hz : w.heap.size ≤ w'.heap.size) (hk : ∀ b, b ∈ F → w'.heap[b]? = w.heap[b]?) : BagIn w' P F l := by
  obtain ⟨v, vs, bs, rfl, hB, hp, e⟩ := h
  exact ⟨v, vs, bs, rfl, hB.keep hz hk, hp, e⟩

theorem BagIn.below {w w' : World} {P : Nat} {F : List Nat} {l : List (Int × Int)} (h : BagIn w P F l) (B : Below w.heap.size w w') : BagIn w' P F l :=
  h.keep B.size fun _ hb => B.block _ (h.lt hb)

theorem BagIn.only {w w' : World} {P : Nat} {F G : List Nat} {l : List (Int × Int)} (h : BagIn w P F l) (k : OnlyIn G w w') (hd : ∀ b, b ∈ F → b ∉ G) : BagIn w' P F l :=
  h.keep k.size fun b hb => k.block b (h.lt hb) (hd b hb)

theorem Scores.put {l : List (Int × Int)} (h : Scores l) (s : Int × Int) : Scores (putS l s) := by
  unfold putS
  split
  · rename_i h0
    unfold putE at h0
    split at h0
    · rename_i hs
      split at h0
      · cases h0
      · have hp := insS_perm s l
        refine ⟨insS_sorted hs l h.all h.sort, allS_perm (l := s :: l) (by unfold allS; rw [List.all_cons, hs]; exact h.all) hp.symm, ?_⟩
        rw [hp.length_eq, List.length_cons]
        omega
    · cases h0
  · exact h

theorem Scores.tak {l : List (Int × Int)} (h : Scores l) (s : Int × Int) : Scores (takS l s) := by
  unfold takS
  split
  · refine ⟨h.sort.sublist List.erase_sublist, ?_, ?_⟩
    · have := h.all
      unfold allS at this ⊢
      rw [List.all_eq_true] at this ⊢
      exact fun x hx => this x (List.mem_of_mem_erase hx)
    · have := List.length_erase_le (a := s) (l := l)
      have := h.most
      omega
  · exact h

theorem scores_nil : Scores [] := ⟨by simp [SortedS], by simp [allS], by simp⟩

/-- What is sorted and a permutation of one with one more. -/
theorem ins_same {l l' : List (Int × Int)} {s : Int × Int} (h : Scores l) (hs : scoreB s = true) (h' : SortedS l') (hp : l'.Perm (s :: l)) : l' = insS l s := by
  have hp2 := insS_perm s l
  refine sorted_same _ _ h' (insS_sorted hs l h.all h.sort) (hp.trans hp2.symm) (allS_perm (l := s :: l) ?_ hp.symm)
  unfold allS
  rw [List.all_cons, hs]
  exact h.all

theorem erase_same {l l' : List (Int × Int)} {s : Int × Int} (h : Scores l) (h' : SortedS l') (hp : (s :: l').Perm l) : s ∈ l ∧ l' = l.erase s := by
  have hm : s ∈ l := hp.mem_iff.1 (by simp)
  refine ⟨hm, sorted_same _ _ h' (h.sort.sublist List.erase_sublist) ?_ ?_⟩
  · have := hp.trans (List.perm_cons_erase hm)
    exact (List.perm_cons s).1 this
  · have := allS_perm h.all hp.symm
    unfold allS at this ⊢
    rw [List.all_cons, Bool.and_eq_true] at this
    exact this.2

/-- The blocks behind an act: those from ahead, and new ones. -/
def Moved (w w' : World) (F F' : List Nat) : Prop := OnlyIn F w w' ∧ ∀ x, x ∈ F' → x ∈ F ∨ w.heap.size ≤ x

theorem addIn_any (P : Nat) (F : List Nat) (l : List (Int × Int)) (p q : Int) (w : World) (h : BagIn w P F l) :
    Calls Try.prog 23 #[.pointer (some ⟨P, 0, none⟩), .agg #[.int .i64 p, .int .i64 q]] w fun e w' => e = .returned (.int .i64 (putE l (p, q))) ∧ ∃ F', BagIn w' P F' (putS l (p, q)) ∧ Moved w w' F F' := by
  have hsc := h.scores
  have h0 := h
  obtain ⟨v, vs, bs, rfl, hB, hp, rfl⟩ := h
  refine (add_any P v vs bs p q w hB hp).mono fun e w' ⟨he, hr⟩ => ⟨he, ?_⟩
  rcases hr with ⟨h1, v', vs', bs', hB', hp', hpm, hon, hmv⟩ | ⟨h1, hb⟩
  · have h1' : putE bs.flatten (p, q) = 0 := h1
    have hs : scoreB (p, q) = true := by
      unfold putE at h1'
      split at h1'
      · assumption
      · cases h1'
    have e1 : bs'.flatten = putS bs.flatten (p, q) := by
      unfold putS
      rw [if_pos h1']
      exact ins_same hsc hs hp'.sort hpm
    refine ⟨P :: blks v' vs', ⟨v', vs', bs', rfl, hB', hp', e1⟩, hon, fun x hx => ?_⟩
    rcases List.mem_cons.1 hx with rfl | hx
    · exact .inl (by simp)
    · rcases hmv x hx with h2 | h2
      · exact .inl (List.mem_cons.2 (.inr h2))
      · exact .inr h2
  · have h1' : putE bs.flatten (p, q) ≠ 0 := h1
    have e1 : putS bs.flatten (p, q) = bs.flatten := by unfold putS; rw [if_neg h1']
    rw [e1]
    exact ⟨_, h0.below hb, OnlyIn.ofBelow hb, fun x hx => .inl hx⟩

theorem dropIn_any (P : Nat) (F : List Nat) (l : List (Int × Int)) (p q : Int) (w : World) (h : BagIn w P F l) :
    Calls Try.prog 25 #[.pointer (some ⟨P, 0, none⟩), .agg #[.int .i64 p, .int .i64 q]] w fun e w' => e = .returned (.int .i64 (takE l (p, q))) ∧ ∃ F', BagIn w' P F' (takS l (p, q)) ∧ Moved w w' F F' := by
  have hsc := h.scores
  have h0 := h
  obtain ⟨v, vs, bs, rfl, hB, hp, rfl⟩ := h
  cases hs : scoreB (p, q) with
  | false =>
    have e1 : takE bs.flatten (p, q) = 130 := by unfold takE; rw [hs]; rfl
    have e2 : takS bs.flatten (p, q) = bs.flatten := by unfold takS; rw [e1]; rfl
    rw [e1, e2]
    exact (drop_bad P p q w hs).mono fun e w' ⟨he, hb⟩ => ⟨he, _, h0.below hb, OnlyIn.ofBelow hb, fun x hx => .inl hx⟩
  | true =>
    refine (drop_any P v vs bs p q w hB hp hs).mono fun e w' hr => ?_
    rcases hr with ⟨he, hn, hb⟩ | ⟨he, v', vs', bs', hB', hp', hpm, hon, hmv⟩
    · have e1 : takE bs.flatten (p, q) = 4 := by unfold takE; rw [hs, if_pos rfl, if_neg hn]
      have e2 : takS bs.flatten (p, q) = bs.flatten := by unfold takS; rw [e1]; rfl
      rw [e1, e2]
      exact ⟨he, _, h0.below hb, OnlyIn.ofBelow hb, fun x hx => .inl hx⟩
    · obtain ⟨hm, e0⟩ := erase_same hsc hp'.sort hpm
      have e1 : takE bs.flatten (p, q) = 0 := by unfold takE; rw [hs, if_pos rfl, if_pos hm]
      have e2 : takS bs.flatten (p, q) = bs.flatten.erase (p, q) := by unfold takS; rw [if_pos e1]
      rw [e1, e2]
      refine ⟨he, P :: blks v' vs', ⟨v', vs', bs', rfl, hB', hp', e0⟩, hon, fun x hx => ?_⟩
      rcases List.mem_cons.1 hx with rfl | hx
      · exact .inl (by simp)
      · exact .inl (List.mem_cons.2 (.inr (hmv x hx)))

theorem lenIn_any (P : Nat) (F : List Nat) (l : List (Int × Int)) (w : World) (h : BagIn w P F l) : Calls Try.prog 17 #[.pointer (some ⟨P, 0, none⟩)] w fun e w' => e = .returned (.int .i64 l.length) ∧ w = w' := by
  obtain ⟨v, vs, bs, _, hB, _, rfl⟩ := h
  exact len_any P v vs bs _ w hB

theorem allIn_any (P : Nat) (F : List Nat) (l : List (Int × Int)) (w : World) (h : BagIn w P F l) : Calls Try.prog 19 #[.pointer (some ⟨P, 0, none⟩)] w fun e w' => ∃ v', e = .returned v' ∧ PairsR w' v' l ∧ Below w.heap.size w w' := by
  obtain ⟨v, vs, bs, _, hB, hp, rfl⟩ := h
  exact all_any P v vs bs _ w hB hp

def rankE (s : Int × Int) : Int := if scoreB s = true then 0 else 130
def rankA (l : List (Int × Int)) (s : Int × Int) : Nat := if scoreB s = true then ltC s l else 0
def rankB (l : List (Int × Int)) (s : Int × Int) : Nat := if scoreB s = true then eqC s l else 0

theorem rankIn_all (P : Nat) (F : List Nat) (l : List (Int × Int)) (p q : Int) (w : World) (h : BagIn w P F l) :
    Calls Try.prog 20 #[.pointer (some ⟨P, 0, none⟩), .agg #[.int .i64 p, .int .i64 q]] w fun e w' => e = .returned (.tuple #[.int .i64 (rankA l (p, q)), .int .i64 (rankB l (p, q)), .int .i64 (rankE (p, q))]) ∧ Below w.heap.size w w' := by
  obtain ⟨v, vs, bs, _, hB, hp, rfl⟩ := h
  unfold rankA rankB rankE
  cases hs : scoreB (p, q) with
  | false => exact rank_bad P p q w hs
  | true => exact rank_any P v vs bs _ p q w hB hp hs

theorem rrankIn_any (l : List (Int × Int)) (v : Value) (p q : Int) (w : World) (h : Scores l) (hl : PairsR w v l) :
    Calls Try.prog 21 #[v, .agg #[.int .i64 p, .int .i64 q]] w fun e w' => e = .returned (.tuple #[.int .i64 (rankA l (p, q)), .int .i64 (rankB l (p, q)), .int .i64 (rankE (p, q))]) ∧ Below w.heap.size w w' := by
  unfold rankA rankB rankE
  cases hs : scoreB (p, q) with
  | false => exact rrank_bad v p q w hs
  | true =>
    obtain ⟨a, c, rfl⟩ := hl.shape
    exact rrank_any l a _ c p q w hs hl rfl h.all h.most

def kthE (l : List (Int × Int)) (k : Int) : Int := if k < 1 ∨ k > l.length then 1 else 0
def kthV (l : List (Int × Int)) (k : Int) : Int × Int := if k < 1 ∨ k > l.length then (0, 0) else l.getD (k.toNat - 1) (0, 0)

theorem kthIn_any (P : Nat) (F : List Nat) (l : List (Int × Int)) (k : Int) (w : World) (h : BagIn w P F l) :
    Calls Try.prog 22 #[.pointer (some ⟨P, 0, none⟩), .int .i64 k] w fun e w' => e = .returned (.tuple #[.agg #[.int .i64 (kthV l k).1, .int .i64 (kthV l k).2], .int .i64 (kthE l k)]) ∧ Below w.heap.size w w' := by
  obtain ⟨v, vs, bs, _, hB, hp, rfl⟩ := h
  unfold kthE kthV
  by_cases hk : k < 1 ∨ k > bs.flatten.length
  · rw [if_pos hk, if_pos hk]
    exact kth_bad P v vs bs _ k w hB hk
  · rw [if_neg hk, if_neg hk]
    obtain ⟨s, hs⟩ := getElem?_ex (l := bs.flatten) (k := k.toNat - 1) (by omega)
    rw [getD_of hs]
    exact kth_any P v vs bs _ k w hB rfl (by omega) (by omega) hp hs

theorem newIn_any (w : World) : Calls Try.prog 14 #[] w fun e w' => e = .returned (.pointer (some ⟨w.heap.size, 0, none⟩)) ∧ BagIn w' w.heap.size [w.heap.size] [] ∧ Below w.heap.size w w' :=
  (new_any w).mono fun _ _ ⟨he, hb, hw⟩ => ⟨he, ⟨_, _, _, rfl, hb, bagP_nil, rfl⟩, hw⟩
end Go.Proofs.Ytjmjnkilgoelbaa
