/-
  An argument that is a slice of structs of integers: how it reads.
-/
import Derived.Test.YtoljilbldkbjpaaFrame
import Derived.Deep.Slices
import Derived.Deep.Fields
import Derived.ChangeSame
namespace Go.Proofs.Ytoljilbldkbjpaa
open Go.ChangeShapes Go.WideShapes Go.ChangeAt Go.RowKit Go.Deep

section
variable {H : Type} {enc : TypeId × Value → H} {P : Program} {w : World} {base : Nat} {spare : Nat → Bool} {held : Bool}
theorem open_slice_fields {t e : TypeId} {fs : Array Field} {fuel : Nat} {cs : List Value} {x : DataW H × List MemPlace} (ht : P.underlying t = some (.slice e)) (he : P.underlying e = some (.struct fs))
    (hone : oneCellFields P fs = true) (hC : P.cellsOf e = fs.size) (h : DataW.trod enc P w base spare held fuel t cs = some x) :
    (cs = [.slice none 0 0] ∧ x = (.nil, [])) ∨
    ∃ (a : Addr) (len cap m : Nat) (D : Nat → DataW H) (Pl : Nat → List MemPlace), cs = [.slice (some a) len cap] ∧ base ≤ a.block ∧ len ≤ cap ∧ cap ≤ maxLen ∧ m = (if spare a.block then cap else len) ∧
      x = (.slice ((List.range len).map D) ((List.range (m - len)).map fun j => D (len + j)), MemPlace.row a (m * fs.size) ++ (List.range m).flatMap Pl) ∧
      ∀ i, i < m → ∃ (ys : List (DataW H × List MemPlace)) (n : Nat), D i = .agg (ys.map (·.1)) ∧ Pl i = ys.flatMap (·.2) ∧ ys.length = fs.size ∧
        ∀ (j : Nat) (f : Field), fs[j]? = some f → ∃ (v : Value) (y : DataW H × List MemPlace), w.cell? (a.add (i * fs.size + j)) = some v ∧ ys[j]? = some y ∧ DataW.trod enc P w base spare held n f.type [v] = some y := by
  rcases open_slice ht h with h0 | ⟨a, len, cap, m, n, D, Pl, hcs, hb, hl, hm, hmm, hx, hi⟩
  · exact .inl h0
  · refine .inr ⟨a, len, cap, m, D, Pl, hcs, hb, hl, hm, hmm, by rw [hC] at hx; exact hx, fun i him => ?_⟩
    obtain ⟨cs', hc, ht'⟩ := hi i him
    rw [hC] at hc
    obtain ⟨ys, n', hn', hy, hlen, hyl, hf⟩ := DataW.trod_struct he ht'
    obtain ⟨_, hcl, hat⟩ := World.cells?_some hc
    simp only [Prod.mk.injEq] at hy
    refine ⟨ys, n', hy.1, hy.2, hyl, fun j f hj => ?_⟩
    obtain ⟨ho, hk⟩ := hone_of hone j f hj
    have hjl : j < fs.size := (Array.getElem?_eq_some_iff.1 hj).1
    have hcell := hat j hjl
    have hv : cs'[j]? = some (cs'[j]'(by omega)) := List.getElem?_eq_getElem (by omega)
    have h1 := hf j f hj
    rw [ho, hk] at h1
    have hone' : (cs'.drop j).take 1 = [cs'[j]'(by omega)] := by
      rw [List.drop_eq_getElem_cons (by omega)]
      rfl
    rw [hone'] at h1
    have hys : ys[j]? = some (ys[j]'(by omega)) := List.getElem?_eq_getElem (by omega)
    refine ⟨_, _, ?_, hys, h1.trans hys⟩
    rw [← Go.Deep.add_add, hcell, hv]
end

theorem list_of_ex {α : Type} : ∀ {m : Nat} {P : Nat → α → Prop}, (∀ j, j < m → ∃ y, P j y) → ∃ l : List α, l.length = m ∧ ∀ j y, l[j]? = some y → P j y
  | 0, P, _ => ⟨[], rfl, fun j y h => by simp at h⟩
  | m + 1, P, h => by
    obtain ⟨l, hl, hp⟩ := list_of_ex (m := m) (P := P) fun j hj => h j (by omega)
    obtain ⟨y, hy⟩ := h m (by omega)
    refine ⟨l ++ [y], by simp [hl], fun j z hz => ?_⟩
    rcases Nat.lt_or_ge j m with hlt | hge
    · rw [List.getElem?_append_left (by omega)] at hz; exact hp j z hz
    · have hjl : j < (l ++ [y]).length := (List.getElem?_eq_some_iff.1 hz).1
      have : j = m := by simp at hjl; omega
      subst this
      rw [List.getElem?_append_right (by omega), hl, Nat.sub_self] at hz
      have : y = z := by simpa using hz
      exact this ▸ hy

/-- v is a slice of structs of m integers each. -/
def ArgRows (m : Nat) (w : World) (v : Value) (rows : List (List Int)) : Prop :=
  ∃ a c, v = .slice a rows.length c ∧ rows.length ≤ c ∧ c ≤ 9223372036854775807 ∧
    ∀ (i : Nat) (row : List Int), rows[i]? = some row → row.length = m ∧ ∃ b o, a = some ⟨b, o, none⟩ ∧ b < w.heap.size ∧ ∀ (j : Nat) (x : Int), row[j]? = some x → w.cell? ⟨b, o + (i * m + j), none⟩ = some (.int .i64 x) ∧ Ok64 x

theorem argRows_of {H : Type} {enc : TypeId × Value → H} {P : Program} {W : World} {r : Reach} {b0 base : Nat} {held : Bool} {t e : TypeId} {fs : Array Field} {v : Value} {d : DataW H} {p : List MemPlace}
    (ht : P.underlying t = some (.slice e)) (he : P.underlying e = some (.struct fs)) (hone : oneCellFields P fs = true) (hC : P.cellsOf e = fs.size) (h0 : 0 < fs.size)
    (hint : ∀ (j : Nat) (f : Field), fs[j]? = some f → P.underlying f.type = some (.int .i64))
    (hv : Value.okWide P W r b0 t v) (h : DataW.Trod enc P W base (fun _ => true) held t v d p) : ∃ rows, ArgRows fs.size W v rows := by
  obtain ⟨a, len, cap, rfl⟩ := okWide_slice ht hv
  obtain ⟨fuel, hf⟩ := h
  rcases open_slice_fields ht he hone hC hf with ⟨hcs, _⟩ | ⟨x, l, c, m, D, Pl, hcs, _, hl, hm, hmm, _, hcell⟩
  · simp [Value.cells] at hcs
    obtain ⟨rfl, rfl, rfl⟩ := hcs
    exact ⟨[], none, 0, rfl, by simp, by omega, fun i x h => by simp at h⟩
  · simp [Value.cells] at hcs
    obtain ⟨rfl, rfl, rfl⟩ := hcs
    simp at hmm
    subst hmm
    have key : ∀ i, i < len → ∃ row : List Int, row.length = fs.size ∧ ∀ (j : Nat) (y : Int), row[j]? = some y → W.cell? (x.add (i * fs.size + j)) = some (.int .i64 y) ∧ Ok64 y := by
      intro i hi
      obtain ⟨ys, n, _, _, hyl, hfj⟩ := hcell i (by omega)
      refine list_of_ex (P := fun j y => W.cell? (x.add (i * fs.size + j)) = some (.int .i64 y) ∧ Ok64 y) fun j hj => ?_
      obtain ⟨v, y, hc, _, ht'⟩ := hfj j fs[j] (Array.getElem?_eq_getElem hj)
      obtain ⟨z, hz, _, hw⟩ := DataW.trod_int (hint j fs[j] (Array.getElem?_eq_getElem hj)) ht'
      have hv : v = .int .i64 z := by simpa using hz
      exact ⟨z, hv ▸ hc, wf_ok hw⟩
    obtain ⟨rows, hrl, hr⟩ := list_of_ex (P := fun i (row : List Int) => row.length = fs.size ∧ ∀ (j : Nat) (y : Int), row[j]? = some y → W.cell? (x.add (i * fs.size + j)) = some (.int .i64 y) ∧ Ok64 y) key
    refine ⟨rows, some x, m, by rw [hrl], by omega, by unfold maxLen at hm; omega, fun i row hi => ?_⟩
    obtain ⟨h1, h2⟩ := hr i row hi
    refine ⟨h1, ?_⟩
    obtain ⟨row0, hrow0⟩ := getElem?_ex (l := rows) (k := 0) (by have := (List.getElem?_eq_some_iff.1 hi).1; omega)
    obtain ⟨y0, hy0⟩ := getElem?_ex (l := row0) (k := 0) (by have := (hr 0 row0 hrow0).1; omega)
    have hc0 := ((hr 0 row0 hrow0).2 0 y0 hy0).1
    obtain ⟨y, hy⟩ := getElem?_ex (l := row) (k := 0) (by omega)
    have hc1 := (h2 0 y hy).1
    obtain ⟨xb, xo, xs⟩ := x
    have hs : xs = none := by
      cases xs with
      | none => rfl
      | some q => simp [Addr.add, World.cell?] at hc0; split at hc0 <;> simp at hc0
    subst hs
    have hadd : ∀ k, (⟨xb, xo, none⟩ : Addr).add k = ⟨xb, xo + k, none⟩ := fun k => by unfold Addr.add; split <;> simp_all
    refine ⟨xb, xo, rfl, World.block_lt_of_cell? W ⟨xb, xo + (i * fs.size + 0), none⟩ (by rw [← hadd]; exact hc1), fun j y hy => ?_⟩
    rw [← hadd]
    exact h2 j y hy
end Go.Proofs.Ytoljilbldkbjpaa
