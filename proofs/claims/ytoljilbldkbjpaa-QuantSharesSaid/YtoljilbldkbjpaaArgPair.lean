/-
  Arguments that are pairs of integers (by value) and slices of pairs: how they read.
-/
import Derived.Test.YtoljilbldkbjpaaArgRows
import Derived.Test.YtoljilbldkbjpaaPairM
namespace Go.Proofs.Ytoljilbldkbjpaa
open Go.ChangeShapes Go.WideShapes Go.ChangeAt Go.RowKit Go.Deep

/-- v is a pair of integers. -/
def ArgPair (v : Value) (s : Int × Int) : Prop := v = .agg #[.int .i64 s.1, .int .i64 s.2] ∧ Ok64 s.1 ∧ Ok64 s.2

theorem argPair_of {H : Type} {enc : TypeId × Value → H} {P : Program} {W : World} {r : Reach} {b0 base : Nat} {held : Bool} {t : TypeId} {f0 f1 : Field} {v : Value} {d : DataW H} {p : List MemPlace}
    (ht : P.underlying t = some (.struct #[f0, f1])) (hC : P.cellsOf t = 2) (o0 : f0.offset = 0) (o1 : f1.offset = 1) (c0 : P.cellsOf f0.type = 1) (c1 : P.cellsOf f1.type = 1)
    (h0 : P.underlying f0.type = some (.int .i64)) (h1 : P.underlying f1.type = some (.int .i64)) (hv : Value.okWide P W r b0 t v) (h : DataW.Trod enc P W base (fun _ => true) held t v d p) : ∃ s, ArgPair v s := by
  obtain ⟨cs, rfl, hcs⟩ := okWide_struct ht hv
  obtain ⟨fuel, hf⟩ := h
  obtain ⟨y0, y1, n, _, hl, e0, e1⟩ := trod_struct2 ht hf
  rw [hC] at hcs
  obtain ⟨l⟩ := cs
  match l, hcs with
  | [a, b], _ =>
    rw [o0, c0] at e0
    rw [o1, c1] at e1
    obtain ⟨x, hx, _, wx⟩ := DataW.trod_int h0 e0
    obtain ⟨y, hy, _, wy⟩ := DataW.trod_int h1 e1
    simp [Value.cells] at hx hy
    subst hx; subst hy
    exact ⟨(x, y), rfl, wf_ok wx, wf_ok wy⟩

def pairOf (r : List Int) : Int × Int := (r.getD 0 0, r.getD 1 0)

theorem ArgRows.pairs {w : World} {v : Value} {rows : List (List Int)} (h : ArgRows 2 w v rows) (hl : rows.length ≤ 140737488351232) : PairsR w v (rows.map pairOf) := by
  obtain ⟨a, c, rfl, h1, h2, h3⟩ := h
  refine ⟨a, c, by rw [List.length_map], by rw [List.length_map]; exact h1, h2, by rw [List.length_map]; exact hl, fun i p hi => ?_⟩
  rw [List.getElem?_map] at hi
  cases hr : rows[i]? with
  | none => rw [hr] at hi; cases hi
  | some r =>
    rw [hr] at hi
    obtain ⟨hm, b, o, e, hb, hc⟩ := h3 i r hr
    have hp : p = pairOf r := by simpa using hi.symm
    subst hp
    obtain ⟨x, hx⟩ := getElem?_ex (l := r) (k := 0) (by omega)
    obtain ⟨y, hy⟩ := getElem?_ex (l := r) (k := 1) (by omega)
    refine ⟨b, o, e, hb, ?_, ?_⟩
    · have := (hc 0 x hx).1
      rw [Nat.add_zero] at this
      unfold pairOf
      rw [getD_of hx]
      exact this
    · have := (hc 1 y hy).1
      rw [← Nat.add_assoc] at this
      unfold pairOf
      rw [getD_of hy]
      exact this

theorem ArgRows.shape {m : Nat} {w : World} {v : Value} {rows : List (List Int)} (h : ArgRows m w v rows) : ∃ a c, v = .slice a rows.length c ∧ rows.length ≤ c ∧ c ≤ 9223372036854775807 := by
  obtain ⟨a, c, e, h1, h2, _⟩ := h
  exact ⟨a, c, e, h1, h2⟩
end Go.Proofs.Ytoljilbldkbjpaa
