/-
  What explain.All holds: the rooms of the columns, and what it tells of each.
-/
import Derived.Test.YtopodhcgfmpphaaExplK
import Derived.Test.YtopodhcgfmpphaaExplQ
namespace Go.Proofs.Ytopodhcgfmpphaa
open Go.RowKit

theorem cell_set_same {w : World} {b o : Nat} {u v : Value} (h : w.cell? ⟨b, o, none⟩ = some u) : (w.setCell ⟨b, o, none⟩ v).cell? ⟨b, o, none⟩ = some v := World.cell?_setCell_same _ _ _ h
theorem cell_set_other {w : World} {b o o' : Nat} {v : Value} (h : o ≠ o') : (w.setCell ⟨b, o, none⟩ v).cell? ⟨b, o', none⟩ = w.cell? ⟨b, o', none⟩ :=
  World.cell?_setCell_other _ _ _ _ (by intro e; injection e; contradiction)

/-- The rooms of n columns lie in block A. -/
def RoomsAt (w : World) (A n : Nat) (f : Nat → Int × Int) : Prop := A < w.heap.size ∧ ∀ k, k < n → RoomAt w A (k * 2) (f k)

/-- What is told of n columns lies in block G. -/
def WhyAt (w : World) (G n : Nat) (g : Nat → Int × Int × Int) : Prop := G < w.heap.size ∧ ∀ k, k < n →
  (w.cell? ⟨G, k * 3, none⟩ = some (.int .i64 (g k).1) ∧ w.cell? ⟨G, k * 3 + 1, none⟩ = some (.int .i64 (g k).2.1) ∧ w.cell? ⟨G, k * 3 + 2, none⟩ = some (.int .i64 (g k).2.2)) ∧
  w.frozen? ⟨G, k * 3, none⟩ = false ∧ w.frozen? ⟨G, k * 3 + 1, none⟩ = false ∧ w.frozen? ⟨G, k * 3 + 2, none⟩ = false

theorem RoomsAt.keep {w w' : World} {A n : Nat} {f : Nat → Int × Int} (h : RoomsAt w A n f) (hk : w'.heap[A]? = w.heap[A]?) (hs : w.heap.size ≤ w'.heap.size) : RoomsAt w' A n f :=
  ⟨Nat.lt_of_lt_of_le h.1 hs, fun k hlt => by
    obtain ⟨h1, h2, h3, h4, h5⟩ := h.2 k hlt
    exact ⟨Nat.lt_of_lt_of_le h.1 hs, (cell_of_block hk).trans h2, (cell_of_block hk).trans h3, by simpa only [World.frozen?, hk] using h4, by simpa only [World.frozen?, hk] using h5⟩⟩

theorem WhyAt.keep {w w' : World} {G n : Nat} {g : Nat → Int × Int × Int} (h : WhyAt w G n g) (hk : w'.heap[G]? = w.heap[G]?) (hs : w.heap.size ≤ w'.heap.size) : WhyAt w' G n g :=
  ⟨Nat.lt_of_lt_of_le h.1 hs, fun k hlt => by
    obtain ⟨⟨h1, h2, h3⟩, h4, h5, h6⟩ := h.2 k hlt
    exact ⟨⟨(cell_of_block hk).trans h1, (cell_of_block hk).trans h2, (cell_of_block hk).trans h3⟩, by simpa only [World.frozen?, hk] using h4, by simpa only [World.frozen?, hk] using h5, by simpa only [World.frozen?, hk] using h6⟩⟩

theorem RoomsAt.congr {w : World} {A n : Nat} {f f' : Nat → Int × Int} (h : RoomsAt w A n f) (e : ∀ k, k < n → f k = f' k) : RoomsAt w A n f' := ⟨h.1, fun k hk => e k hk ▸ h.2 k hk⟩
theorem WhyAt.congr {w : World} {G n : Nat} {g g' : Nat → Int × Int × Int} (h : WhyAt w G n g) (e : ∀ k, k < n → g k = g' k) : WhyAt w G n g' := ⟨h.1, fun k hk => e k hk ▸ h.2 k hk⟩

/-- A room is set. -/
theorem RoomsAt.put {w : World} {A n : Nat} {f : Nat → Int × Int} (h : RoomsAt w A n f) (c : Nat) (r : Int × Int) :
    RoomsAt ((w.setCell ⟨A, c * 2, none⟩ (.int .i64 r.1)).setCell ⟨A, c * 2 + 1, none⟩ (.int .i64 r.2)) A n (fun k => if k = c then r else f k) := by
  refine ⟨by simpa using h.1, fun k hk => ?_⟩
  obtain ⟨h1, h2, h3, h4, h5⟩ := h.2 k hk
  dsimp only
  refine ⟨by simpa using h1, ?_, ?_, by simpa using h4, by simpa using h5⟩
  · rw [cell_set_other (by omega)]
    by_cases e : k = c
    · subst e
      rw [if_pos rfl]
      exact cell_set_same h2
    · rw [if_neg e, cell_set_other (by omega)]
      exact h2
  · by_cases e : k = c
    · subst e
      rw [if_pos rfl]
      exact cell_set_same (by rw [cell_set_other (by omega)]; exact h3)
    · rw [if_neg e, cell_set_other (by omega), cell_set_other (by omega)]
      exact h3

theorem WhyAt.put0 {w : World} {G n : Nat} {g : Nat → Int × Int × Int} (h : WhyAt w G n g) (c : Nat) (s : Int) :
    WhyAt (w.setCell ⟨G, c * 3, none⟩ (.int .i64 s)) G n (fun k => if k = c then (s, (g k).2) else g k) := by
  refine ⟨by simpa using h.1, fun k hk => ?_⟩
  obtain ⟨⟨h1, h2, h3⟩, h4, h5, h6⟩ := h.2 k hk
  dsimp only
  by_cases e : k = c
  · subst e
    rw [if_pos rfl]
    exact ⟨⟨cell_set_same h1, (cell_set_other (by omega)).trans h2, (cell_set_other (by omega)).trans h3⟩, by simpa using h4, by simpa using h5, by simpa using h6⟩
  · rw [if_neg e]
    exact ⟨⟨(cell_set_other (by omega)).trans h1, (cell_set_other (by omega)).trans h2, (cell_set_other (by omega)).trans h3⟩, by simpa using h4, by simpa using h5, by simpa using h6⟩

theorem WhyAt.put12 {w : World} {G n : Nat} {g : Nat → Int × Int × Int} (h : WhyAt w G n g) (c : Nat) (r : Int × Int) :
    WhyAt ((w.setCell ⟨G, c * 3 + 1, none⟩ (.int .i64 r.1)).setCell ⟨G, c * 3 + 2, none⟩ (.int .i64 r.2)) G n (fun k => if k = c then ((g k).1, r) else g k) := by
  refine ⟨by simpa using h.1, fun k hk => ?_⟩
  obtain ⟨⟨h1, h2, h3⟩, h4, h5, h6⟩ := h.2 k hk
  dsimp only
  refine ⟨⟨?_, ?_, ?_⟩, by simpa using h4, by simpa using h5, by simpa using h6⟩
  · rw [cell_set_other (by omega), cell_set_other (by omega)]
    split <;> exact h1
  · rw [cell_set_other (by omega)]
    by_cases e : k = c
    · subst e; rw [if_pos rfl]; exact cell_set_same h2
    · rw [if_neg e, cell_set_other (by omega)]; exact h2
  · by_cases e : k = c
    · subst e; rw [if_pos rfl]; exact cell_set_same (by rw [cell_set_other (by omega)]; exact h3)
    · rw [if_neg e, cell_set_other (by omega), cell_set_other (by omega)]; exact h3

/-- A slice of answers: steps, from, to. -/
def WhysR (w : World) (v : Value) (l : List (Int × Int × Int)) : Prop :=
  ∃ a c, v = .slice a l.length c ∧ l.length ≤ c ∧ c ≤ 9223372036854775807 ∧ ∀ (i : Nat) (p : Int × Int × Int), l[i]? = some p →
    ∃ b o, a = some ⟨b, o, none⟩ ∧ b < w.heap.size ∧ w.cell? ⟨b, o + i * 3, none⟩ = some (.int .i64 p.1) ∧ w.cell? ⟨b, o + i * 3 + 1, none⟩ = some (.int .i64 p.2.1) ∧ w.cell? ⟨b, o + i * 3 + 2, none⟩ = some (.int .i64 p.2.2)

theorem WhysR.below {w w' : World} {v : Value} {l : List (Int × Int × Int)} (h : WhysR w v l) (B : Below w.heap.size w w') : WhysR w' v l := by
  obtain ⟨a, c, e, h1, h2, h⟩ := h
  refine ⟨a, c, e, h1, h2, fun i p hi => ?_⟩
  obtain ⟨b, o, e, hb, c0, c1, c2⟩ := h i p hi
  exact ⟨b, o, e, Nat.lt_of_lt_of_le hb B.size, (B.cell (p := ⟨b, _, none⟩) hb).trans c0, (B.cell (p := ⟨b, _, none⟩) hb).trans c1, (B.cell (p := ⟨b, _, none⟩) hb).trans c2⟩

theorem whys_nil (w : World) (a : Option Addr) (c : Nat) (hc : c ≤ 9223372036854775807) : WhysR w (.slice a 0 c) [] :=
  ⟨a, c, rfl, Nat.zero_le _, hc, fun i p hi => by simp at hi⟩

noncomputable def whyL (l : List TreeP) (x : List Int) : List (Int × Int × Int) := (List.range x.length).map fun k => (whyS l x k, whyLo l x k, whyHi l x k)

theorem WhyAt.whys {w : World} {G n : Nat} {l : List TreeP} {x : List Int} (h : WhyAt w G n fun k => (whyS l x k, whyLo l x k, whyHi l x k)) (hn : x.length = n) (hb : n ≤ 9223372036854775807) : WhysR w (.slice (some ⟨G, 0, none⟩) n n) (whyL l x) := by
  have hl : (whyL l x).length = n := by simp [whyL, hn]
  refine ⟨_, _, by rw [hl], by omega, hb, fun i p hi => ?_⟩
  have hlt : i < n := by rw [← hl]; exact (List.getElem?_eq_some_iff.1 hi).1
  unfold whyL at hi
  rw [List.getElem?_map, List.getElem?_range (by omega)] at hi
  obtain rfl : (whyS l x i, whyLo l x i, whyHi l x i) = p := by simpa using hi
  obtain ⟨⟨h1, h2, h3⟩, _⟩ := h.2 i hlt
  exact ⟨G, 0, rfl, h.1, by rw [Nat.zero_add]; exact h1, by rw [Nat.zero_add]; exact h2, by rw [Nat.zero_add]; exact h3⟩

/-- One tree more. -/
theorem whyS_step {l : List TreeP} {t : TreeP} {i : Nat} (h : l[i]? = some t) (x : List Int) (k : Nat) : whyS (l.take (i + 1)) x k = whyS (l.take i) x k + cntI t x k := by
  unfold whyS
  rw [take_snoc' h, List.map_append]
  exact sumI_snoc _ _
theorem whyLo_step {l : List TreeP} {t : TreeP} {i : Nat} (h : l[i]? = some t) (x : List Int) (k : Nat) : whyLo (l.take (i + 1)) x k = max (whyLo (l.take i) x k) (roomP t x k).1 := by
  unfold whyLo
  rw [take_snoc' h, List.foldl_append]
  rfl
theorem whyHi_step {l : List TreeP} {t : TreeP} {i : Nat} (h : l[i]? = some t) (x : List Int) (k : Nat) : whyHi (l.take (i + 1)) x k = min (whyHi (l.take i) x k) (roomP t x k).2 := by
  unfold whyHi
  rw [take_snoc' h, List.foldl_append]
  rfl
theorem cntI_bd {t : TreeP} (h : treeB t = true) (x : List Int) (k : Nat) : 0 ≤ cntI t x k ∧ cntI t x k ≤ 6 := by
  have h1 := cntP_le (stepL t x) k
  have h2 := (stepL_ok h x).2.1
  unfold cntI
  omega
theorem whyS_bd {l : List TreeP} (h : ∀ t ∈ l, treeB t = true) (x : List Int) (k : Nat) : 0 ≤ whyS l x k ∧ whyS l x k ≤ 6 * l.length := by
  induction l with
  | nil => simp [whyS, sumI]
  | cons t l ih =>
    have h1 := cntI_bd (h t (by simp)) x k
    have h2 := ih fun t ht => h t (by simp [ht])
    have e : whyS (t :: l) x k = cntI t x k + whyS l x k := by simp [whyS, sumI]
    rw [e, List.length_cons]
    omega
end Go.Proofs.Ytopodhcgfmpphaa
