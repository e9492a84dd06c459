/-
  Frame: What the frames of all statements of this seat share: how an argument that came in reads.
  ArgRows: An argument that is a slice of structs of integers: how it reads.
  ArgPair: Arguments that are pairs of integers (by value) and slices of pairs: how they read.
  ArgOps: An argument that is a slice of acts (an integer and a score): how it reads.
  Laws19: What must come of copselaw19.lives; QuantPlaces.
-/
import Derived.Test.YtjmjnkilgoelbaaJ0a
import Derived.ProofKit
import Derived.OpenShut
import Derived.ShutString
import Derived.ChangeOld
import Derived.Deep.Slices
import Derived.Deep.Fields
import Derived.ChangeSame
import Derived.Test.YtjmjnkilgoelbaaJ0b
namespace Go.Proofs.Ytjmjnkilgoelbaa
open Go.ChangeShapes Go.WideShapes Go.ChangeAt Go.RowKit

theorem own : ownKnob Try.prog.godebug = none := by kernel_rfl
theorem laidOut : laidOutB Try.prog = true := by kernel_rfl

def ArgInts (k : IntKind) (w : World) (v : Value) (l : List Int) : Prop :=
  ∃ a c, v = .slice a l.length c ∧ l.length ≤ c ∧ c ≤ 9223372036854775807 ∧
    (∀ (i : Nat) (x : Int), l[i]? = some x → ∃ b o, a = some ⟨b, o, none⟩ ∧ b < w.heap.size ∧ w.cell? ⟨b, o + i, none⟩ = some (.int k x)) ∧ ∀ x ∈ l, (Lit.int k x).wf = true

theorem ArgInts.ints {k : IntKind} {w : World} {v : Value} {l : List Int} (h : ArgInts k w v l) (hl : l.length ≤ 140737488351232) : Ints k w v l := by
  obtain ⟨a, c, e, h1, h2, h3, _⟩ := h
  exact ⟨a, c, e, h1, h2, hl, h3⟩

theorem argInts_of {H : Type} {enc : TypeId × Value → H} {P : Program} {W : World} {r : Reach} {b0 base : Nat} {held : Bool} {t e : TypeId} {k : IntKind} {v : Value} {d : DataW H} {p : List MemPlace}
    (ht : P.underlying t = some (.slice e)) (he : P.underlying e = some (.int k)) (hc : P.cellsOf e = 1) (hv : Value.okWide P W r b0 t v) (h : DataW.Trod enc P W base (fun _ => true) held t v d p) :
    ∃ l, ArgInts k W v l := by
  obtain ⟨a, len, cap, rfl⟩ := okWide_slice ht hv
  obtain ⟨fuel, hf⟩ := h
  rcases open_ints ht he hc hf with ⟨hcs, _⟩ | ⟨x, l, c, zs, hcs, _, hl, hm, hz, _, hcell, hwz⟩
  · simp [Value.cells] at hcs
    obtain ⟨rfl, rfl, rfl⟩ := hcs
    exact ⟨[], none, 0, rfl, by simp, by omega, fun i x h => by simp at h, fun x h => by simp at h⟩
  · simp [Value.cells] at hcs
    obtain ⟨rfl, rfl, rfl⟩ := hcs
    have hz' : zs.length = cap := by simpa using hz
    have hlen : (zs.take len).length = len := by rw [List.length_take]; omega
    refine ⟨zs.take len, some x, cap, by rw [hlen], by rw [hlen]; exact hl, by simpa [maxLen] using hm, fun i y hi => ?_, fun y hy => hwz y (List.mem_of_mem_take hy)⟩
    have hil : i < len := by have := (List.getElem?_eq_some_iff.1 hi).1; omega
    rw [List.getElem?_take, if_pos hil] at hi
    have hi0 : 0 < zs.length := by omega
    have h0 := hcell 0 hi0
    have h1 := hcell i (by omega)
    obtain ⟨xb, xo, xs⟩ := x
    have hs : xs = none := by
      cases xs with
      | none => rfl
      | some q => simp [Addr.add, World.cell?] at h0; split at h0 <;> simp at h0
    subst hs
    have hadd : (⟨xb, xo, none⟩ : Addr).add i = ⟨xb, xo + i, none⟩ := by unfold Addr.add; split <;> simp_all
    rw [hadd] at h1
    refine ⟨xb, xo, rfl, World.block_lt_of_cell? W ⟨xb, xo + i, none⟩ h1, ?_⟩
    rw [h1]
    simp [hi]

theorem wf_i64 {a : Int} (h : (Lit.int .i64 a).wf = true) : -9223372036854775808 ≤ a ∧ a ≤ 9223372036854775807 := by
  have := bounds_i64 h
  omega
theorem wf_ok {a : Int} (h : (Lit.int .i64 a).wf = true) : Ok64 a := wf_i64 h
end Go.Proofs.Ytjmjnkilgoelbaa

namespace Go.Proofs.Ytjmjnkilgoelbaa
open Go.ChangeShapes Go.WideShapes Go.ChangeAt Go.RowKit Go.Deep

section
variable {H : Type} {enc : TypeId × Value → H} {P : Program} {w : World} {base : Nat} {spare : Nat → Bool} {held : Bool}
theorem open_slice_fields {t e : TypeId} {fs : Array Field} {fuel : Nat} {cs : List Value} {x : DataW H × List MemPlace} (ht : P.underlying t = some (.slice e)) (he : P.underlying e = some (.struct fs))
    (hone : oneCellFields P fs = true) (hC : P.cellsOf e = fs.size) (h : DataW.trod enc P w base spare held fuel t cs = some x) :
    (cs = [.slice none 0 0] ∧ x = (.nil, [])) ∨
    ∃ (a : Addr) (len cap m : Nat) (D : Nat → DataW H) (Pl : Nat → List MemPlace), cs = [.slice (some a) len cap] ∧ base ≤ a.block ∧ len ≤ cap ∧ cap ≤ maxLen ∧ m = (if spare a.block then cap else len) ∧
      x = (.slice ((List.range len).map D) ((List.range (m - len)).map fun j => D (len + j)), MemPlace.row a (m * fs.size) ++ (List.range m).flatMap Pl) ∧
      ∀ i, i < m → ∃ (ys : List (DataW H × List MemPlace)) (n : Nat), D i = .agg (ys.map (·.1)) ∧ Pl i = ys.flatMap (·.2) ∧ ys.length = fs.size ∧
        ∀ (j : Nat) (f : Field), fs[j]? = some f → ∃ (v : Value) (y : DataW H × List MemPlace), w.cell? (a.add (i * fs.size + j)) = some v ∧ ys[j]? = some y ∧ DataW.trod enc P w base spare held n f.type [v] = some y := by
  rcases open_slice ht h with h0 | ⟨a, len, cap, m, n, D, Pl, hcs, hb, hl, hm, hmm, hx, hi⟩
  · exact .inl h0
  · refine .inr ⟨a, len, cap, m, D, Pl, hcs, hb, hl, hm, hmm, by rw [hC] at hx; exact hx, fun i him => ?_⟩
    obtain ⟨cs', hc, ht'⟩ := hi i him
    rw [hC] at hc
    obtain ⟨ys, n', hn', hy, hlen, hyl, hf⟩ := DataW.trod_struct he ht'
    obtain ⟨_, hcl, hat⟩ := World.cells?_some hc
    simp only [Prod.mk.injEq] at hy
    refine ⟨ys, n', hy.1, hy.2, hyl, fun j f hj => ?_⟩
    obtain ⟨ho, hk⟩ := hone_of hone j f hj
    have hjl : j < fs.size := (Array.getElem?_eq_some_iff.1 hj).1
    have hcell := hat j hjl
    have hv : cs'[j]? = some (cs'[j]'(by omega)) := List.getElem?_eq_getElem (by omega)
    have h1 := hf j f hj
    rw [ho, hk] at h1
    have hone' : (cs'.drop j).take 1 = [cs'[j]'(by omega)] := by
      rw [List.drop_eq_getElem_cons (by omega)]
      rfl
    rw [hone'] at h1
    have hys : ys[j]? = some (ys[j]'(by omega)) := List.getElem?_eq_getElem (by omega)
    refine ⟨_, _, ?_, hys, h1.trans hys⟩
    rw [← Go.Deep.add_add, hcell, hv]
end

theorem list_of_ex {α : Type} : ∀ {m : Nat} {P : Nat → α → Prop}, (∀ j, j < m → ∃ y, P j y) → ∃ l : List α, l.length = m ∧ ∀ j y, l[j]? = some y → P j y
  | 0, P, _ => ⟨[], rfl, fun j y h => by simp at h⟩
  | m + 1, P, h => by
    obtain ⟨l, hl, hp⟩ := list_of_ex (m := m) (P := P) fun j hj => h j (by omega)
    obtain ⟨y, hy⟩ := h m (by omega)
    refine ⟨l ++ [y], by simp [hl], fun j z hz => ?_⟩
    rcases Nat.lt_or_ge j m with hlt | hge
    · rw [List.getElem?_append_left (by omega)] at hz; exact hp j z hz
    · have hjl : j < (l ++ [y]).length := (List.getElem?_eq_some_iff.1 hz).1
      have : j = m := by simp at hjl; omega
      subst this
      rw [List.getElem?_append_right (by omega), hl, Nat.sub_self] at hz
      have : y = z := by simpa using hz
      exact this ▸ hy

/-- v is a slice of structs of m integers each. -/
def ArgRows (m : Nat) (w : World) (v : Value) (rows : List (List Int)) : Prop :=
  ∃ a c, v = .slice a rows.length c ∧ rows.length ≤ c ∧ c ≤ 9223372036854775807 ∧
    ∀ (i : Nat) (row : List Int), rows[i]? = some row → row.length = m ∧ ∃ b o, a = some ⟨b, o, none⟩ ∧ b < w.heap.size ∧ ∀ (j : Nat) (x : Int), row[j]? = some x → w.cell? ⟨b, o + (i * m + j), none⟩ = some (.int .i64 x) ∧ Ok64 x

theorem argRows_of {H : Type} {enc : TypeId × Value → H} {P : Program} {W : World} {r : Reach} {b0 base : Nat} {held : Bool} {t e : TypeId} {fs : Array Field} {v : Value} {d : DataW H} {p : List MemPlace}
    (ht : P.underlying t = some (.slice e)) (he : P.underlying e = some (.struct fs)) (hone : oneCellFields P fs = true) (hC : P.cellsOf e = fs.size) (h0 : 0 < fs.size)
    (hint : ∀ (j : Nat) (f : Field), fs[j]? = some f → P.underlying f.type = some (.int .i64))
    (hv : Value.okWide P W r b0 t v) (h : DataW.Trod enc P W base (fun _ => true) held t v d p) : ∃ rows, ArgRows fs.size W v rows := by
  obtain ⟨a, len, cap, rfl⟩ := okWide_slice ht hv
  obtain ⟨fuel, hf⟩ := h
  rcases open_slice_fields ht he hone hC hf with ⟨hcs, _⟩ | ⟨x, l, c, m, D, Pl, hcs, _, hl, hm, hmm, _, hcell⟩
  · simp [Value.cells] at hcs
    obtain ⟨rfl, rfl, rfl⟩ := hcs
    exact ⟨[], none, 0, rfl, by simp, by omega, fun i x h => by simp at h⟩
  · simp [Value.cells] at hcs
    obtain ⟨rfl, rfl, rfl⟩ := hcs
    simp at hmm
    subst hmm
    have key : ∀ i, i < len → ∃ row : List Int, row.length = fs.size ∧ ∀ (j : Nat) (y : Int), row[j]? = some y → W.cell? (x.add (i * fs.size + j)) = some (.int .i64 y) ∧ Ok64 y := by
      intro i hi
      obtain ⟨ys, n, _, _, hyl, hfj⟩ := hcell i (by omega)
      refine list_of_ex (P := fun j y => W.cell? (x.add (i * fs.size + j)) = some (.int .i64 y) ∧ Ok64 y) fun j hj => ?_
      obtain ⟨v, y, hc, _, ht'⟩ := hfj j fs[j] (Array.getElem?_eq_getElem hj)
      obtain ⟨z, hz, _, hw⟩ := DataW.trod_int (hint j fs[j] (Array.getElem?_eq_getElem hj)) ht'
      have hv : v = .int .i64 z := by simpa using hz
      exact ⟨z, hv ▸ hc, wf_ok hw⟩
    obtain ⟨rows, hrl, hr⟩ := list_of_ex (P := fun i (row : List Int) => row.length = fs.size ∧ ∀ (j : Nat) (y : Int), row[j]? = some y → W.cell? (x.add (i * fs.size + j)) = some (.int .i64 y) ∧ Ok64 y) key
    refine ⟨rows, some x, m, by rw [hrl], by omega, by unfold maxLen at hm; omega, fun i row hi => ?_⟩
    obtain ⟨h1, h2⟩ := hr i row hi
    refine ⟨h1, ?_⟩
    obtain ⟨row0, hrow0⟩ := getElem?_ex (l := rows) (k := 0) (by have := (List.getElem?_eq_some_iff.1 hi).1; omega)
    obtain ⟨y0, hy0⟩ := getElem?_ex (l := row0) (k := 0) (by have := (hr 0 row0 hrow0).1; omega)
    have hc0 := ((hr 0 row0 hrow0).2 0 y0 hy0).1
    obtain ⟨y, hy⟩ := getElem?_ex (l := row) (k := 0) (by omega)
    have hc1 := (h2 0 y hy).1
    obtain ⟨xb, xo, xs⟩ := x
    have hs : xs = none := by
      cases xs with
      | none => rfl
      | some q => simp [Addr.add, World.cell?] at hc0; split at hc0 <;> simp at hc0
    subst hs
    have hadd : ∀ k, (⟨xb, xo, none⟩ : Addr).add k = ⟨xb, xo + k, none⟩ := fun k => by unfold Addr.add; split <;> simp_all
    refine ⟨xb, xo, rfl, World.block_lt_of_cell? W ⟨xb, xo + (i * fs.size + 0), none⟩ (by rw [← hadd]; exact hc1), fun j y hy => ?_⟩
    rw [← hadd]
    exact h2 j y hy
end Go.Proofs.Ytjmjnkilgoelbaa

namespace Go.Proofs.Ytjmjnkilgoelbaa
open Go.ChangeShapes Go.WideShapes Go.ChangeAt Go.RowKit Go.Deep

/-- v is a pair of integers. -/
def ArgPair (v : Value) (s : Int × Int) : Prop := v = .agg #[.int .i64 s.1, .int .i64 s.2] ∧ Ok64 s.1 ∧ Ok64 s.2

theorem argPair_of {H : Type} {enc : TypeId × Value → H} {P : Program} {W : World} {r : Reach} {b0 base : Nat} {held : Bool} {t : TypeId} {f0 f1 : Field} {v : Value} {d : DataW H} {p : List MemPlace}
    (ht : P.underlying t = some (.struct #[f0, f1])) (hC : P.cellsOf t = 2) (o0 : f0.offset = 0) (o1 : f1.offset = 1) (c0 : P.cellsOf f0.type = 1) (c1 : P.cellsOf f1.type = 1)
    (h0 : P.underlying f0.type = some (.int .i64)) (h1 : P.underlying f1.type = some (.int .i64)) (hv : Value.okWide P W r b0 t v) (h : DataW.Trod enc P W base (fun _ => true) held t v d p) : ∃ s, ArgPair v s := by
  obtain ⟨cs, rfl, hcs⟩ := okWide_struct ht hv
  obtain ⟨fuel, hf⟩ := h
  obtain ⟨y0, y1, n, _, hl, e0, e1⟩ := trod_struct2 ht hf
  rw [hC] at hcs
  obtain ⟨l⟩ := cs
  match l, hcs with
  | [a, b], _ =>
    rw [o0, c0] at e0
    rw [o1, c1] at e1
    obtain ⟨x, hx, _, wx⟩ := DataW.trod_int h0 e0
    obtain ⟨y, hy, _, wy⟩ := DataW.trod_int h1 e1
    simp [Value.cells] at hx hy
    subst hx; subst hy
    exact ⟨(x, y), rfl, wf_ok wx, wf_ok wy⟩

def pairOf (r : List Int) : Int × Int := (r.getD 0 0, r.getD 1 0)

theorem ArgRows.pairs {w : World} {v : Value} {rows : List (List Int)} (h : ArgRows 2 w v rows) (hl : rows.length ≤ 140737488351232) : PairsR w v (rows.map pairOf) := by
  obtain ⟨a, c, rfl, h1, h2, h3⟩ := h
  refine ⟨a, c, by rw [List.length_map], by rw [List.length_map]; exact h1, h2, by rw [List.length_map]; exact hl, fun i p hi => ?_⟩
  rw [List.getElem?_map] at hi
  cases hr : rows[i]? with
  | none => rw [hr] at hi; cases hi
  | some r =>
    rw [hr] at hi
    obtain ⟨hm, b, o, e, hb, hc⟩ := h3 i r hr
    have hp : p = pairOf r := by simpa using hi.symm
    subst hp
    obtain ⟨x, hx⟩ := getElem?_ex (l := r) (k := 0) (by omega)
    obtain ⟨y, hy⟩ := getElem?_ex (l := r) (k := 1) (by omega)
    refine ⟨b, o, e, hb, ?_, ?_⟩
    · have := (hc 0 x hx).1
      rw [Nat.add_zero] at this
      unfold pairOf
      rw [getD_of hx]
      exact this
    · have := (hc 1 y hy).1
      rw [← Nat.add_assoc] at this
      unfold pairOf
      rw [getD_of hy]
      exact this

theorem ArgRows.shape {m : Nat} {w : World} {v : Value} {rows : List (List Int)} (h : ArgRows m w v rows) : ∃ a c, v = .slice a rows.length c ∧ rows.length ≤ c ∧ c ≤ 9223372036854775807 := by
  obtain ⟨a, c, e, h1, h2, _⟩ := h
  exact ⟨a, c, e, h1, h2⟩
end Go.Proofs.Ytjmjnkilgoelbaa

namespace Go.Proofs.Ytjmjnkilgoelbaa
open Go.ChangeShapes Go.WideShapes Go.ChangeAt Go.RowKit Go.Deep

/-- v is a slice of acts. -/
def ArgOps (w : World) (v : Value) (l : List (Int × (Int × Int))) : Prop :=
  ∃ a c, v = .slice a l.length c ∧ l.length ≤ c ∧ c ≤ 9223372036854775807 ∧
    ∀ (i : Nat) (x : Int × (Int × Int)), l[i]? = some x → (Ok64 x.1 ∧ Ok64 x.2.1 ∧ Ok64 x.2.2) ∧ ∃ b o, a = some ⟨b, o, none⟩ ∧ b < w.heap.size ∧
      w.cell? ⟨b, o + i * 3, none⟩ = some (.int .i64 x.1) ∧ w.cell? ⟨b, o + i * 3 + 1, none⟩ = some (.int .i64 x.2.1) ∧ w.cell? ⟨b, o + i * 3 + 2, none⟩ = some (.int .i64 x.2.2)

theorem ArgOps.shape {w : World} {v : Value} {l : List (Int × (Int × Int))} (h : ArgOps w v l) : ∃ a c, v = .slice a l.length c := by
  obtain ⟨a, c, e, _⟩ := h
  exact ⟨a, c, e⟩

theorem ArgOps.below {w w' : World} {v : Value} {l : List (Int × (Int × Int))} (h : ArgOps w v l) (B : Below w.heap.size w w') : ArgOps w' v l := by
  obtain ⟨a, c, e, h1, h2, h⟩ := h
  refine ⟨a, c, e, h1, h2, fun i x hi => ?_⟩
  obtain ⟨h3, b, o, e, hb, c0, c1, c2⟩ := h i x hi
  exact ⟨h3, b, o, e, Nat.lt_of_lt_of_le hb B.size, (B.cell (p := ⟨b, _, none⟩) hb).trans c0, (B.cell (p := ⟨b, _, none⟩) hb).trans c1, (B.cell (p := ⟨b, _, none⟩) hb).trans c2⟩

theorem ArgOps.at {w : World} {a : Option Addr} {n c : Nat} {l : List (Int × (Int × Int))} (h : ArgOps w (.slice a n c) l) {i : Nat} {x : Int × (Int × Int)} (hi : l[i]? = some x) :
    (Ok64 x.1 ∧ Ok64 x.2.1 ∧ Ok64 x.2.2) ∧ ∃ b o, a = some ⟨b, o, none⟩ ∧ b < w.heap.size ∧
      w.cell? ⟨b, o + i * 3, none⟩ = some (.int .i64 x.1) ∧ w.cell? ⟨b, o + i * 3 + 1, none⟩ = some (.int .i64 x.2.1) ∧ w.cell? ⟨b, o + i * 3 + 2, none⟩ = some (.int .i64 x.2.2) := by
  obtain ⟨_, _, e, _, _, g⟩ := h
  injection e with e1 e2 e3
  subst e1
  exact g i x hi

theorem argOps_of {H : Type} {enc : TypeId × Value → H} {P : Program} {W : World} {r : Reach} {b0 base : Nat} {held : Bool} {t e : TypeId} {f0 f1 g0 g1 : Field} {v : Value} {d : DataW H} {p : List MemPlace}
    (ht : P.underlying t = some (.slice e)) (he : P.underlying e = some (.struct #[f0, f1])) (hC : P.cellsOf e = 3) (o0 : f0.offset = 0) (o1 : f1.offset = 1) (c0 : P.cellsOf f0.type = 1) (c1 : P.cellsOf f1.type = 2)
    (h0 : P.underlying f0.type = some (.int .i64)) (h1 : P.underlying f1.type = some (.struct #[g0, g1])) (p0 : g0.offset = 0) (p1 : g1.offset = 1) (d0 : P.cellsOf g0.type = 1) (d1 : P.cellsOf g1.type = 1)
    (k0 : P.underlying g0.type = some (.int .i64)) (k1 : P.underlying g1.type = some (.int .i64))
    (hv : Value.okWide P W r b0 t v) (h : DataW.Trod enc P W base (fun _ => true) held t v d p) : ∃ l, ArgOps W v l := by
  obtain ⟨a, len, cap, rfl⟩ := okWide_slice ht hv
  obtain ⟨fuel, hf⟩ := h
  rcases open_slice ht hf with ⟨hcs, _⟩ | ⟨x, l, c, m, n, D, Pl, hcs, _, hl, hm, hmm, _, hcell⟩
  · simp [Value.cells] at hcs
    obtain ⟨rfl, rfl, rfl⟩ := hcs
    exact ⟨[], none, 0, rfl, by simp, by omega, fun i x h => by simp at h⟩
  · simp [Value.cells] at hcs
    obtain ⟨rfl, rfl, rfl⟩ := hcs
    simp at hmm
    subst hmm
    rw [hC] at hcell
    have key : ∀ i, i < len → ∃ y : Int × (Int × Int), (Ok64 y.1 ∧ Ok64 y.2.1 ∧ Ok64 y.2.2) ∧ W.cell? (x.add (i * 3)) = some (.int .i64 y.1) ∧ W.cell? (x.add (i * 3 + 1)) = some (.int .i64 y.2.1) ∧ W.cell? (x.add (i * 3 + 2)) = some (.int .i64 y.2.2) := by
      intro i hi
      obtain ⟨cs, hc, ht'⟩ := hcell i (by omega)
      obtain ⟨_, hcl, hat⟩ := World.cells?_some hc
      obtain ⟨y0, y1, n', _, _, hy0, hy1⟩ := trod_struct2 he ht'
      rw [o0, c0] at hy0
      rw [o1, c1] at hy1
      obtain ⟨z0, z1, n'', _, _, hz0, hz1⟩ := trod_struct2 h1 hy1
      rw [p0, d0] at hz0
      rw [p1, d1] at hz1
      obtain ⟨u0, e0, _, w0⟩ := DataW.trod_int h0 hy0
      obtain ⟨u1, e1, _, w1⟩ := DataW.trod_int k0 hz0
      obtain ⟨u2, e2, _, w2⟩ := DataW.trod_int k1 hz1
      match cs, hcl with
      | [x0, x1, x2], _ =>
        simp at e0 e1 e2
        subst e0 e1 e2
        refine ⟨(u0, u1, u2), ⟨wf_ok w0, wf_ok w1, wf_ok w2⟩, ?_, ?_, ?_⟩
        · have := hat 0 (by omega)
          simpa [Go.Deep.add_add] using this
        · have := hat 1 (by omega)
          simpa [Go.Deep.add_add] using this
        · have := hat 2 (by omega)
          simpa [Go.Deep.add_add] using this
    obtain ⟨rows, hrl, hr⟩ := list_of_ex (P := fun i (y : Int × (Int × Int)) => (Ok64 y.1 ∧ Ok64 y.2.1 ∧ Ok64 y.2.2) ∧ W.cell? (x.add (i * 3)) = some (.int .i64 y.1) ∧ W.cell? (x.add (i * 3 + 1)) = some (.int .i64 y.2.1) ∧ W.cell? (x.add (i * 3 + 2)) = some (.int .i64 y.2.2)) key
    refine ⟨rows, some x, m, by rw [hrl], by omega, by unfold maxLen at hm; omega, fun i y hi => ?_⟩
    obtain ⟨h1, h2, h3, h4⟩ := hr i y hi
    refine ⟨h1, ?_⟩
    obtain ⟨y0, hy0⟩ := getElem?_ex (l := rows) (k := 0) (by have := (List.getElem?_eq_some_iff.1 hi).1; omega)
    have h00 := (hr 0 y0 hy0).2.1
    obtain ⟨xb, xo, xs⟩ := x
    have hs : xs = none := by
      cases xs with
      | none => rfl
      | some q => simp [Addr.add, World.cell?] at h00; split at h00 <;> simp at h00
    subst hs
    have hadd : ∀ k, (⟨xb, xo, none⟩ : Addr).add k = ⟨xb, xo + k, none⟩ := fun k => by unfold Addr.add; split <;> simp_all
    rw [hadd] at h2 h3 h4
    exact ⟨xb, xo, rfl, World.block_lt_of_cell? W ⟨xb, xo + i * 3, none⟩ h2, h2, by rw [Nat.add_assoc]; exact h3, by rw [Nat.add_assoc]; exact h4⟩
end Go.Proofs.Ytjmjnkilgoelbaa

namespace Go.Proofs.Ytjmjnkilgoelbaa
open Go.RowKit

theorem t19a : indexV 11 1 10 = 10 := by decide +kernel
theorem t19b : indexE 11 1 10 = 0 := by decide +kernel
theorem t19c : lineV [(1, 1), (2, 1), (3, 1)] 1 2 = (2, 1) := by decide +kernel
theorem t19d : lineE [(1, 1), (2, 1), (3, 1)] 1 2 = 0 := by decide +kernel
theorem t19e : overB (2, 1) (2, 1) = true := by decide +kernel
theorem t19f : overE (2, 1) (2, 1) = 0 := by decide +kernel
theorem t19g : countV [(1, 1), (2, 1), (3, 1)] (2, 1) = 2 := by decide +kernel
theorem t19h : countE [(1, 1), (2, 1), (3, 1)] (2, 1) = 0 := by decide +kernel
theorem t19i : shareV [(1, 1), (2, 1), (3, 1)] (2, 1) = (2, 3) := by decide +kernel
theorem t19j : shareE [(1, 1), (2, 1), (3, 1)] (2, 1) = 0 := by decide +kernel

theorem PairsR.new (W : World) (T : TypeId) (cs : Array Value) (ps : List (Int × Int)) (b n c : Nat) (hb : b = W.heap.size) (hcs : cs.toList = ps.flatMap pairF) (hn : n = ps.length) (hc : n ≤ c) (hc2 : c ≤ 1000000) : PairsR (W.alloc (.cells cs T)) (.slice (some ⟨b, 0, none⟩) n c) ps := by
  subst hb hn
  refine ⟨_, _, rfl, hc, by omega, by omega, fun i p hi => ⟨W.heap.size, 0, rfl, by simp, ?_, ?_⟩⟩
  · obtain ⟨r0, r1⟩ := pairF_at ps i p hi
    have hb := heap_alloc_new W (.cells cs T)
    simp only [World.cell?, hb]
    rw [← hcs] at r0
    simpa using r0
  · obtain ⟨r0, r1⟩ := pairF_at ps i p hi
    have hb := heap_alloc_new W (.cells cs T)
    simp only [World.cell?, hb]
    rw [← hcs] at r1
    simpa using r1

set_option maxRecDepth 100000 in
set_option maxHeartbeats 4000000 in
theorem lives19_any (w : World) : Calls Try.prog 53 #[] w fun e w' => e = .returned (.bool true) ∧ Below w.heap.size w w' := by
  have h1 := fun (W : World) => qindex_any 11 1 10 W (by unfold Ok64; omega) (by unfold Ok64; omega)
  rw [t19a, t19b] at h1
  have h2 := fun (W : World) v (hX : PairsR W v [(1, 1), (2, 1), (3, 1)]) => qline_any v [(1, 1), (2, 1), (3, 1)] 1 2 W hX (by decide) (by unfold Ok64; omega) (by unfold Ok64; omega)
  rw [t19c, t19d] at h2
  have h3 := fun (W : World) => overQ_any 2 1 2 1 W
  rw [t19e, t19f] at h3
  have h4 := fun (W : World) v (hX : PairsR W v [(1, 1), (2, 1), (3, 1)]) => qcount_any v [(1, 1), (2, 1), (3, 1)] 2 1 W hX (by decide)
  rw [t19g, t19h] at h4
  have h5 := fun (W : World) v (hX : PairsR W v [(1, 1), (2, 1), (3, 1)]) => qshare_any v [(1, 1), (2, 1), (3, 1)] 2 1 W hX (by decide)
  rw [t19i, t19j] at h5
  have h6 := fun (W : World) => quantOf_nil 1 2 W
  have H1 := Lib.hid h1; have H2 := Lib.hid h2; have H3 := Lib.hid h3; have H4 := Lib.hid h4; have H5 := Lib.hid h5; have H6 := Lib.hid h6
  clear h1 h2 h3 h4 h5 h6
  go_enter Try.func53, Try.ntmps53
  go_wp2_with fail
  (with_reducible refine (H1.out _).mono ?_)
  rintro e w1 ⟨rfl, rfl⟩
  go_wp2_with fail
  have I0 := Lib.hid (PairsR.new w 24 #[.int .i64 1, .int .i64 1, .int .i64 2, .int .i64 1, .int .i64 3, .int .i64 1] [(1, 1), (2, 1), (3, 1)] w.heap.size 3 3 rfl rfl rfl (by omega) (by omega))
  (with_reducible refine (H2.out _ _ I0.out).mono ?_); rintro e w1 ⟨rfl, b1⟩; have s1 : w.heap.size + 1 ≤ w1.heap.size := sz b1; have B1 := Lib.hid (Bc (B := w.heap.size) (a := w) (by (repeat (first | with_reducible exact Below.refl _ _ | with_reducible refine Bs ?_ | with_reducible refine Ba ?_ | with_reducible refine Bd ?_ | with_reducible refine Bn ?_))) b1); have c1_0 : w1.cell? ⟨w.heap.size, 2, none⟩ = some (.int .i64 2) := kc b1 (by go_simp) (by first | omega | (simp; done) | (simp; omega)); have c1_1 : w1.cell? ⟨w.heap.size, 3, none⟩ = some (.int .i64 1) := kc b1 (by go_simp) (by first | omega | (simp; done) | (simp; omega)); obtain ⟨l1_0, n1_0, m1_0⟩ := lnm (show w.heap.size < w1.heap.size by omega); have I0 := Lib.hid ((I0.out.below (by (repeat (first | with_reducible exact Below.refl _ _ | with_reducible refine Bs ?_ | with_reducible refine Ba ?_ | with_reducible refine Bd ?_ | with_reducible refine Bn ?_)))).below b1); clear b1
  go_wp2_with fail
  go_region_held3 (fun w' => w'.cell? ⟨w.heap.size, 2, none⟩ = some (.int .i64 2) ∧ w'.cell? ⟨w.heap.size, 3, none⟩ = some (.int .i64 1) ∧ w'.cell? ⟨w1.heap.size, 0, none⟩ = some (.int .i64 2) ∧ w'.cell? ⟨w1.heap.size, 1, none⟩ = some (.int .i64 1)) (first | (go_simp; done) | (go_keep; done) | (refine ⟨?_, ?_, ?_, ?_⟩ <;> first | (go_simp; done) | (go_keep; done))) (first | ((go_at_call 125; (with_reducible refine (H3.out _).mono ?_); rintro e w2 ⟨rfl, b2⟩; have s2 : w1.heap.size + 1 ≤ w2.heap.size := sz b2; have B2 := Lib.hid (Bc (B := w.heap.size) (a := w) (by (repeat (first | with_reducible exact Below.refl _ _ | with_reducible refine Bs ?_ | with_reducible refine Ba ?_ | with_reducible refine Bd ?_ | with_reducible refine Bn ?_ | with_reducible refine Bt B1.out ?_))) b2); have c2_0 : w2.cell? ⟨w.heap.size, 2, none⟩ = some (.int .i64 2) := kc b2 (by go_simp) (by first | omega | (simp; done) | (simp; omega)); have c2_1 : w2.cell? ⟨w.heap.size, 3, none⟩ = some (.int .i64 1) := kc b2 (by go_simp) (by first | omega | (simp; done) | (simp; omega)); obtain ⟨c2_2, c2_3⟩ := k2 (w1.heap.size) (.int .i64 2) (.int .i64 1) b2 (by and_intros <;> go_simp); obtain ⟨l2_0, n2_0, m2_0⟩ := lnm (show w.heap.size < w2.heap.size by omega); obtain ⟨l2_1, n2_1, m2_1⟩ := lnm (show w1.heap.size < w2.heap.size by omega); have I0 := Lib.hid ((I0.out.below (by (repeat (first | with_reducible exact Below.refl _ _ | with_reducible refine Bs ?_ | with_reducible refine Ba ?_ | with_reducible refine Bd ?_ | with_reducible refine Bn ?_)))).below b2); clear b2)))
  go_wp2_with fail
  (with_reducible refine (H4.out _ _ (I0.out.below (by (repeat (first | with_reducible exact Below.refl _ _ | with_reducible refine Bs ?_ | with_reducible refine Ba ?_ | with_reducible refine Bd ?_ | with_reducible refine Bn ?_))))).mono ?_); rintro e w3 ⟨rfl, b3⟩; have s3 : w2.heap.size ≤ w3.heap.size := sz b3; have B3 := Lib.hid (Bc (B := w.heap.size) (a := w) (by (repeat (first | with_reducible exact Below.refl _ _ | with_reducible refine Bs ?_ | with_reducible refine Ba ?_ | with_reducible refine Bd ?_ | with_reducible refine Bn ?_ | with_reducible refine Bt B2.out ?_))) b3); have c3_0 : w3.cell? ⟨w.heap.size, 2, none⟩ = some (.int .i64 2) := kc b3 (by go_simp) (by first | omega | (simp; done) | (simp; omega)); have c3_1 : w3.cell? ⟨w.heap.size, 3, none⟩ = some (.int .i64 1) := kc b3 (by go_simp) (by first | omega | (simp; done) | (simp; omega)); obtain ⟨c3_2, c3_3⟩ := k2 (w1.heap.size) (.int .i64 2) (.int .i64 1) b3 (by and_intros <;> go_simp); obtain ⟨l3_0, n3_0, m3_0⟩ := lnm (show w.heap.size < w3.heap.size by omega); obtain ⟨l3_1, n3_1, m3_1⟩ := lnm (show w1.heap.size < w3.heap.size by omega); have I0 := Lib.hid ((I0.out.below (by (repeat (first | with_reducible exact Below.refl _ _ | with_reducible refine Bs ?_ | with_reducible refine Ba ?_ | with_reducible refine Bd ?_ | with_reducible refine Bn ?_)))).below b3); clear b3
  go_wp2_with fail
  (with_reducible refine (H5.out _ _ (I0.out.below (by (repeat (first | with_reducible exact Below.refl _ _ | with_reducible refine Bs ?_ | with_reducible refine Ba ?_ | with_reducible refine Bd ?_ | with_reducible refine Bn ?_))))).mono ?_); rintro e w4 ⟨rfl, b4⟩; have s4 : w3.heap.size ≤ w4.heap.size := sz b4; have B4 := Lib.hid (Bc (B := w.heap.size) (a := w) (by (repeat (first | with_reducible exact Below.refl _ _ | with_reducible refine Bs ?_ | with_reducible refine Ba ?_ | with_reducible refine Bd ?_ | with_reducible refine Bn ?_ | with_reducible refine Bt B3.out ?_))) b4); have c4_0 : w4.cell? ⟨w.heap.size, 2, none⟩ = some (.int .i64 2) := kc b4 (by go_simp) (by first | omega | (simp; done) | (simp; omega)); have c4_1 : w4.cell? ⟨w.heap.size, 3, none⟩ = some (.int .i64 1) := kc b4 (by go_simp) (by first | omega | (simp; done) | (simp; omega)); obtain ⟨c4_2, c4_3⟩ := k2 (w1.heap.size) (.int .i64 2) (.int .i64 1) b4 (by and_intros <;> go_simp); obtain ⟨l4_0, n4_0, m4_0⟩ := lnm (show w.heap.size < w4.heap.size by omega); obtain ⟨l4_1, n4_1, m4_1⟩ := lnm (show w1.heap.size < w4.heap.size by omega); have I0 := Lib.hid ((I0.out.below (by (repeat (first | with_reducible exact Below.refl _ _ | with_reducible refine Bs ?_ | with_reducible refine Ba ?_ | with_reducible refine Bd ?_ | with_reducible refine Bn ?_)))).below b4); clear b4
  go_wp2_with fail
  (with_reducible refine (H6.out _).mono ?_); rintro e w5 ⟨rfl, b5⟩; have s5 : w4.heap.size + 1 ≤ w5.heap.size := sz b5; have B5 := Lib.hid (Bc (B := w.heap.size) (a := w) (by (repeat (first | with_reducible exact Below.refl _ _ | with_reducible refine Bs ?_ | with_reducible refine Ba ?_ | with_reducible refine Bd ?_ | with_reducible refine Bn ?_ | with_reducible refine Bt B4.out ?_))) b5); have c5_0 : w5.cell? ⟨w.heap.size, 2, none⟩ = some (.int .i64 2) := kc b5 (by go_simp) (by first | omega | (simp; done) | (simp; omega)); have c5_1 : w5.cell? ⟨w.heap.size, 3, none⟩ = some (.int .i64 1) := kc b5 (by go_simp) (by first | omega | (simp; done) | (simp; omega)); obtain ⟨c5_2, c5_3⟩ := k2 (w1.heap.size) (.int .i64 2) (.int .i64 1) b5 (by and_intros <;> go_simp); obtain ⟨c5_4, c5_5⟩ := k2 (w4.heap.size) (.int .i64 2) (.int .i64 3) b5 (by and_intros <;> go_simp); obtain ⟨l5_0, n5_0, m5_0⟩ := lnm (show w.heap.size < w5.heap.size by omega); obtain ⟨l5_1, n5_1, m5_1⟩ := lnm (show w1.heap.size < w5.heap.size by omega); obtain ⟨l5_2, n5_2, m5_2⟩ := lnm (show w4.heap.size < w5.heap.size by omega); clear b5
  go_wp2_with fail
  go_quiet (fail)
  go_wp2_with fail
  go_ret
  exact ⟨rfl, by (repeat (first | with_reducible exact Below.refl _ _ | with_reducible refine Bs ?_ | with_reducible refine Ba ?_ | with_reducible refine Bd ?_ | with_reducible refine Bn ?_ | with_reducible refine Bt B5.out ?_))⟩
end Go.Proofs.Ytjmjnkilgoelbaa
