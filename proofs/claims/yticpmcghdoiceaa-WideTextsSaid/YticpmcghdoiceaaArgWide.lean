/-
  An argument that is a wide number (a struct of two u64, by value): how it reads.
-/
import Derived.Test.YticpmcghdoiceaaFrame
import Derived.Test.YticpmcghdoiceaaWideMath
import Derived.Deep.Slices
import Derived.Deep.Fields
import Derived.ChangeSame
namespace Go.Proofs.Yticpmcghdoiceaa
open Go.ChangeShapes Go.WideShapes Go.ChangeAt Go.RowKit Go.Deep

/-- v is a wide number. -/
def ArgWide (v : Value) (n : Nat) : Prop := v = WV n ∧ n < T128

theorem wf_u64 {a : Int} (h : (Lit.int .u64 a).wf = true) : 0 ≤ a ∧ a ≤ 18446744073709551615 := bounds_u64 h

theorem argWide_of {H : Type} {enc : TypeId × Value → H} {P : Program} {W : World} {r : Reach} {b0 base : Nat} {held : Bool} {t : TypeId} {f0 f1 : Field} {v : Value} {d : DataW H} {p : List MemPlace}
    (ht : P.underlying t = some (.struct #[f0, f1])) (hC : P.cellsOf t = 2) (o0 : f0.offset = 0) (o1 : f1.offset = 1) (c0 : P.cellsOf f0.type = 1) (c1 : P.cellsOf f1.type = 1)
    (h0 : P.underlying f0.type = some (.int .u64)) (h1 : P.underlying f1.type = some (.int .u64)) (hv : Value.okWide P W r b0 t v) (h : DataW.Trod enc P W base (fun _ => true) held t v d p) : ∃ n, ArgWide v n := by
  obtain ⟨cs, rfl, hcs⟩ := okWide_struct ht hv
  obtain ⟨fuel, hf⟩ := h
  obtain ⟨y0, y1, n, _, hl, e0, e1⟩ := trod_struct2 ht hf
  rw [hC] at hcs
  obtain ⟨l⟩ := cs
  match l, hcs with
  | [a, b], _ =>
    rw [o0, c0] at e0
    rw [o1, c1] at e1
    obtain ⟨x, hx, _, wx⟩ := DataW.trod_int h0 e0
    obtain ⟨y, hy, _, wy⟩ := DataW.trod_int h1 e1
    simp [Value.cells] at hx hy
    subst hx; subst hy
    have bx := wf_u64 wx
    have bY := wf_u64 wy
    obtain ⟨x, rfl⟩ := Int.eq_ofNat_of_zero_le bx.1
    obtain ⟨y, rfl⟩ := Int.eq_ofNat_of_zero_le bY.1
    refine ⟨x * 18446744073709551616 + y, ?_, ?_⟩
    · rw [wv_of x y (by omega) rfl]
    · unfold T128; omega
end Go.Proofs.Yticpmcghdoiceaa
