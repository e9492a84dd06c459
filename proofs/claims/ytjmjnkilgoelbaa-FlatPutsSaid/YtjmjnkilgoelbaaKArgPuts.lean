/-
  ArgPuts: Arguments that are slices of copselaw15.Put (a place and a tree): how they read.
-/
import Derived.Test.YtjmjnkilgoelbaaJ0b
import Derived.Test.YtjmjnkilgoelbaaJ2b
namespace Go.Proofs.Ytjmjnkilgoelbaa
open Go.ChangeShapes Go.WideShapes Go.ChangeAt Go.RowKit Go.Deep

/-- v is a slice of places and trees. -/
def ArgPuts (w : World) (v : Value) (l : List (Int × TreeP)) : Prop :=
  ∃ a c, v = .slice a l.length c ∧ l.length ≤ c ∧ c ≤ 9223372036854775807 ∧
    ∀ (i : Nat) (p : Int × TreeP), l[i]? = some p → ∃ b o nv, a = some ⟨b, o, none⟩ ∧ b < w.heap.size ∧ w.cell? ⟨b, o + i * 3, none⟩ = some (.int .i64 p.1) ∧ (Lit.int .i64 p.1).wf = true ∧ w.cell? ⟨b, o + i * 3 + 1, none⟩ = some (.int .i64 p.2.dim) ∧ w.cell? ⟨b, o + i * 3 + 2, none⟩ = some nv ∧ ArgNodes w nv p.2.nodes

theorem ArgPuts.below {w w' : World} {v : Value} {l : List (Int × TreeP)} (h : ArgPuts w v l) (B : Below w.heap.size w w') : ArgPuts w' v l := by
  obtain ⟨a, c, e, h1, h2, h⟩ := h
  refine ⟨a, c, e, h1, h2, fun i p hi => ?_⟩
  obtain ⟨b, o, nv, e, hb, c0, cw, c1, c2, hn⟩ := h i p hi
  exact ⟨b, o, nv, e, Nat.lt_of_lt_of_le hb B.size, (B.cell (p := ⟨b, _, none⟩) hb).trans c0, cw, (B.cell (p := ⟨b, _, none⟩) hb).trans c1, (B.cell (p := ⟨b, _, none⟩) hb).trans c2, hn.below B⟩

section
variable {H : Type} {enc : TypeId × Value → H} {P : Program} {w : World} {base : Nat} {held : Bool}
variable {tT tNs tN tC tCo tI : TypeId} {fT0 fT1 fN0 fN1 fN2 fN3 fC0 fC1 : Field}

theorem argPuts_of {tPs tP : TypeId} {fP0 fP1 : Field} (hPs : P.underlying tPs = some (.slice tP)) (hP : P.underlying tP = some (.struct #[fP0, fP1])) (cP : P.cellsOf tP = 3) (hP0 : fP0.type = tI ∧ fP0.offset = 0 ∧ P.cellsOf fP0.type = 1) (hP1 : fP1.type = tT ∧ fP1.offset = 1 ∧ P.cellsOf fP1.type = 2)
    (R : TreeRows P tT tNs tN tC tCo tI fT0 fT1 fN0 fN1 fN2 fN3 fC0 fC1) {r : Reach} {b0 : Nat} {v : Value} {d : DataW H} {p : List MemPlace}
    (hv : Value.okWide P w r b0 tPs v) (h : DataW.Trod enc P w base (fun _ => true) held tPs v d p) : ∃ l, ArgPuts w v l := by
  obtain ⟨a, len, cap, rfl⟩ := okWide_slice hPs hv
  obtain ⟨fuel, hf⟩ := h
  rcases open_slice hPs hf with ⟨hcs, _⟩ | ⟨a, len, cap, m, n, D, Pl, hcs, hb, hl, hm, hmm, hx, hi⟩
  · simp [Value.cells] at hcs
    obtain ⟨rfl, rfl, rfl⟩ := hcs
    exact ⟨[], none, 0, rfl, by simp, by omega, fun i x h => by simp at h⟩
  · simp [Value.cells] at hcs hmm
    obtain ⟨rfl, rfl, rfl⟩ := hcs
    subst hmm
    have one : ∀ (c0 c1 c2 : Value) (fuel : Nat) (y : DataW H × List MemPlace), DataW.trod enc P w base (fun _ => true) held fuel tP [c0, c1, c2] = some y → ∃ q : Int × TreeP, c0 = .int .i64 q.1 ∧ (Lit.int .i64 q.1).wf = true ∧ c1 = .int .i64 q.2.dim ∧ ArgNodes w c2 q.2.nodes := by
      intro c0 c1 c2 fuel y h
      obtain ⟨ys, n', _, _, _, hyl, hf⟩ := DataW.trod_struct hP h
      have h0 := hf 0 fP0 rfl
      have h1 := hf 1 fP1 rfl
      rw [hP0.2.1, hP0.2.2, hP0.1] at h0
      rw [hP1.2.1, hP1.2.2, hP1.1] at h1
      have hys : ∀ j, j < 2 → ∃ q, ys[j]? = some q := fun j hj => getElem?_ex (by rw [hyl]; exact hj)
      obtain ⟨q0, e0⟩ := hys 0 (by omega)
      obtain ⟨q1, e1⟩ := hys 1 (by omega)
      rw [e0] at h0
      rw [e1] at h1
      obtain ⟨z, hz, _, hwf⟩ := DataW.trod_int R.uI h0
      obtain ⟨t, ht, hn⟩ := trod_tree R (c0 := c1) (c1 := c2) h1
      simp at hz
      exact ⟨⟨z, t⟩, hz, hwf, ht, hn⟩
    have hs0 : 0 < len → a.spot = none := by
      intro h0
      obtain ⟨cs, hc, _⟩ := hi 0 (by omega)
      rw [cP] at hc
      obtain ⟨_, hcl, hat⟩ := World.cells?_some hc
      match cs, hcl with
      | [c0, c1, c2], _ =>
        have a0 := hat 0 (by omega)
        rw [Go.Deep.add_add] at a0
        exact spot_none a0
    have key : ∀ i, i < len → ∃ q : Int × TreeP, a.spot = none ∧ a.block < w.heap.size ∧ ∃ nv, w.cell? ⟨a.block, a.off + i * 3, none⟩ = some (.int .i64 q.1) ∧ (Lit.int .i64 q.1).wf = true ∧ w.cell? ⟨a.block, a.off + i * 3 + 1, none⟩ = some (.int .i64 q.2.dim) ∧ w.cell? ⟨a.block, a.off + i * 3 + 2, none⟩ = some nv ∧ ArgNodes w nv q.2.nodes := by
      intro i hil
      obtain ⟨cs, hc, ht⟩ := hi i (by omega)
      rw [cP] at hc
      obtain ⟨_, hcl, hat⟩ := World.cells?_some hc
      match cs, hcl with
      | [c0, c1, c2], _ =>
        obtain ⟨q, rfl, hwf, rfl, g1⟩ := one _ _ _ _ _ ht
        have a0 := hat 0 (by omega)
        have a1 := hat 1 (by omega)
        have a2 := hat 2 (by omega)
        rw [Go.Deep.add_add] at a0 a1 a2
        have hs := hs0 (by omega)
        rw [add_none hs] at a0 a1 a2
        exact ⟨q, hs, World.block_lt_of_cell? w ⟨a.block, _, none⟩ a0, c2, a0, hwf, a1, a2, g1⟩
    obtain ⟨l, hll, hlp⟩ := list_of_ex (P := fun i (q : Int × TreeP) => a.spot = none ∧ a.block < w.heap.size ∧ ∃ nv, w.cell? ⟨a.block, a.off + i * 3, none⟩ = some (.int .i64 q.1) ∧ (Lit.int .i64 q.1).wf = true ∧ w.cell? ⟨a.block, a.off + i * 3 + 1, none⟩ = some (.int .i64 q.2.dim) ∧ w.cell? ⟨a.block, a.off + i * 3 + 2, none⟩ = some nv ∧ ArgNodes w nv q.2.nodes) key
    refine ⟨l, some a, m, by rw [hll], by omega, by unfold maxLen at hm; omega, fun i q hi => ?_⟩
    obtain ⟨g1, g2, nv, g3, g4, g5, g6, g7⟩ := hlp i q hi
    refine ⟨a.block, a.off, nv, ?_, g2, g3, g4, g5, g6, g7⟩
    obtain ⟨ab, ao, sp⟩ := a
    simp at g1
    subst g1
    rfl
end

set_option maxRecDepth 100000 in
theorem argPuts_in {H : Type} {enc : TypeId × Value → H} {w : World} {base : Nat} {held : Bool} {r : Reach} {b0 : Nat} {v : Value} {d : DataW H} {p : List MemPlace}
    (hv : Value.okWide Try.prog w r b0 120 v) (h : DataW.Trod enc Try.prog w base (fun _ => true) held 120 v d p) : ∃ l, ArgPuts w v l := by
  obtain ⟨_, _, _, _, _, _, _, _, R⟩ := treeRows
  exact argPuts_of Try.underlying120 Try.underlying123 (by kernel_rfl) ⟨rfl, rfl, (by kernel_rfl)⟩ ⟨rfl, rfl, (by kernel_rfl)⟩ R hv h
end Go.Proofs.Ytjmjnkilgoelbaa
