/-
  StateW: Events and alerts under way: own rows of them.
-/
import Derived.Test.YtgobbecpnjelmaaGreatKStateV
import Derived.Test.YtgobbecpnjelmaaGreatKStateM
namespace Go.Proofs.YtgobbecpnjelmaaGreat
open Go.RowKit

theorem flat_at {α β : Type} (f : α → List β) (m : Nat) (hf : ∀ x, (f x).length = m) : ∀ (ps : List α) (i : Nat) (p : α), ps[i]? = some p → ∀ j, j < m → (ps.flatMap f)[i * m + j]? = (f p)[j]?
 | [], i, p, h, j, hj => by simp at h
 | q :: ps, 0, p, h, j, hj => by
  obtain rfl : q = p := by simpa using h
  rw [List.flatMap_cons, Nat.zero_mul, Nat.zero_add, List.getElem?_append_left (by rw [hf]; exact hj)]
 | q :: ps, i + 1, p, h, j, hj => by
  have := flat_at f m hf ps i p (by simpa using h) j hj
  rw [List.flatMap_cons, List.getElem?_append_right (by rw [hf, Nat.add_mul]; omega), hf, ← this]
  congr 1
  rw [Nat.add_mul]
  omega

theorem eiSeen : EI Tryz.prog 55 (.agg #[.int .i64 0, .slice none 0 0, .int .i64 0, .int .i64 0, .bool false]) 5 56 := .of rJ rfl (by decide) (by decide)

theorem eiAlert : EI Tryz.prog 71 (.agg #[.int .i64 0, .int .i64 0, .int .i64 0, .int .i64 0, .int .i64 0, .int .i64 0]) 6 48 := .of rJ rfl (by decide) (by decide)

/-- An event with the value of its vector. -/
abbrev SeV := SeenT × Value

def rowSn (p : SeV) : List Value := [.int .i64 p.1.1, p.2, .int .i64 p.1.2.2.1, .int .i64 p.1.2.2.2.1, .bool p.1.2.2.2.2]

def rowAl (t : AlertT) : List Value := [.int .i64 t.1, .int .i64 t.2.1, .int .i64 t.2.2.1.1, .int .i64 t.2.2.1.2, .int .i64 t.2.2.2.1, .int .i64 t.2.2.2.2]

theorem own_seens {w : World} {base n : Nat} {v : Value} {ps : List SeV} (h : w.ownsRow base 55 5 v n (ps.flatMap rowSn)) (hn : n = ps.length) (hs : n ≤ 1000) (hx : ∀ p ∈ ps, Ints .i64 w p.2 p.1.2.1) : SeensR w v (ps.map (·.1)) := by
 subst hn
 rcases h.2 with ⟨rfl, h0⟩ | ⟨g, cap, cur, rfl, _, hg, h1, h2, h3, h4⟩
 ·have : ps = [] := List.eq_nil_of_length_eq_zero h0
  subst this
  exact seens_nil _ _ (by omega)
 ·refine ⟨some ⟨g, 0, none⟩, cap, by rw [List.length_map], by rw [List.length_map]; exact h1, by simpa [maxLen] using h2, by rw [List.length_map]; omega, fun i t hi => ?_⟩
  rw [List.getElem?_map] at hi
  cases hp : ps[i]? with
  | none => rw [hp] at hi; simp at hi
  | some p =>
   rw [hp] at hi
   obtain rfl : p.1 = t := by simpa using hi
   have hlt : i < ps.length := (List.getElem?_eq_some_iff.1 hp).1
   have hr := fun j (hj : j < 5) => (h.cellAt (i * 5 + j) (by omega)).trans (flat_at rowSn 5 (fun _ => rfl) ps i p hp j hj)
   refine ⟨g, 0, p.2, rfl, (Array.getElem?_eq_some_iff.1 hg).1, ?_, ?_, ?_, ?_, ?_, hx p (List.mem_of_getElem? hp)⟩
   ·rw [Nat.zero_add]; exact hr 0 (by omega)
   ·rw [Nat.zero_add]; exact hr 1 (by omega)
   ·rw [Nat.zero_add]; exact hr 2 (by omega)
   ·rw [Nat.zero_add]; exact hr 3 (by omega)
   ·rw [Nat.zero_add]; exact hr 4 (by omega)

theorem own_alerts {w : World} {base n : Nat} {v : Value} {l : List AlertT} (h : w.ownsRow base 71 6 v n (l.flatMap rowAl)) (hn : n = l.length) (hs : n ≤ 1000) : AlertsR w v l := by
 subst hn
 rcases h.2 with ⟨rfl, h0⟩ | ⟨g, cap, cur, rfl, _, hg, h1, h2, h3, h4⟩
 ·have : l = [] := List.eq_nil_of_length_eq_zero h0
  subst this
  exact alerts_nil _ _ (by omega)
 ·refine ⟨some ⟨g, 0, none⟩, cap, rfl, h1, by simpa [maxLen] using h2, by omega, fun i t hi => ?_⟩
  have hlt : i < l.length := (List.getElem?_eq_some_iff.1 hi).1
  have hr := fun j (hj : j < 6) => (h.cellAt (i * 6 + j) (by omega)).trans (flat_at rowAl 6 (fun _ => rfl) l i t hi j hj)
  refine ⟨g, 0, rfl, (Array.getElem?_eq_some_iff.1 hg).1, ?_, ?_, ?_, ?_, ?_, ?_⟩
  ·rw [Nat.zero_add]; exact hr 0 (by omega)
  ·rw [Nat.zero_add]; exact hr 1 (by omega)
  ·rw [Nat.zero_add]; exact hr 2 (by omega)
  ·rw [Nat.zero_add]; exact hr 3 (by omega)
  ·rw [Nat.zero_add]; exact hr 4 (by omega)
  ·rw [Nat.zero_add]; exact hr 5 (by omega)

/-- A vector that lies in blocks from B on, but for the block r. -/
def ApI (B : Nat) (r : Option Nat) (U : World) (v : Value) (x : List Int) : Prop := ∀ W : World, (∀ b, B ≤ b → r ≠ some b → b < U.heap.size → W.heap[b]? = U.heap[b]?) → U.heap.size ≤ W.heap.size → Ints .i64 W v x

section
variable {B R : Nat} {U U' : World} {v : Value} {x : List Int} {r : Option Nat}

theorem ApI.fresh {C : Nat} (h : Ints .i64 U v x) (hf : Fresh C v) (hC : B ≤ C) (hr : ∀ b, r = some b → b < C) : ApI B r U v x := fun W hW hz =>
 ints_kept' h (fun hne g hg => by
  obtain ⟨a, c, e, _, _, _, h4⟩ := h
  obtain ⟨o, n, c', e'⟩ := hg
  rw [e] at e'
  injection e' with e1 e2 e3
  have hx0 : x.length ≠ 0 := fun e => hne (List.eq_nil_of_length_eq_zero e)
  have hg1 : C ≤ g := hf ⟨g, o, none⟩ x.length c (by rw [e, e1]) hx0
  obtain ⟨y, hy⟩ := getElem?_ex (l := x) (k := 0) (by omega)
  obtain ⟨b, o2, e4, hb, _⟩ := h4 0 y hy
  rw [e1] at e4
  injection e4 with e4
  injection e4 with e4
  subst e4
  exact hW g (by omega) (fun e => by have := hr g e; omega) hb) hz

theorem ApI.now (h : ApI B r U v x) : Ints .i64 U v x := h U (fun _ _ _ _ => rfl) (Nat.le_refl _)

theorem ApI.only (h : ApI B r U v x) (hR : R < B) (g : U.grownBy U' (some R)) : ApI B r U' v x := fun W hW hz =>
 h W (fun b h0 h1 h2 => (hW b h0 h1 (Nat.lt_of_lt_of_le h2 g.size)).trans (g.block b h2 (fun e => by injection e with e; omega))) (Nat.le_trans g.size hz)

theorem ApI.later (h : ApI B r U v x) (g : Below U.heap.size U U') : ApI B r U' v x := fun W hW hz =>
 h W (fun b h0 h1 h2 => (hW b h0 h1 (Nat.lt_of_lt_of_le h2 g.size)).trans (g.block b h2)) (Nat.le_trans g.size hz)

theorem ApI.grown {v0 v1 : Value} (h : ApI B v0.ownBlock U v x) (g : U.grownBy U' v0.ownBlock) (hn : NewB U v0 v1) : ApI B v1.ownBlock U' v x := fun W hW hz =>
 h W (fun b h0 h1 h2 => (hW b h0 (fun e => by
  rcases hn with hn | ⟨b', hn, hb'⟩
  ·exact h1 (by rw [← hn]; exact e)
  ·rw [hn] at e; injection e with e; omega) (Nat.lt_of_lt_of_le h2 g.size)).trans (g.block b h2 (fun e => h1 e.symm))) (Nat.le_trans g.size hz)
end

/-- v is a slice of events that lies in blocks from B on. -/
def SeensF (B : Nat) (w : World) (v : Value) (l : List SeenT) : Prop := ∀ W : World, (∀ b, B ≤ b → b < w.heap.size → W.heap[b]? = w.heap[b]?) → w.heap.size ≤ W.heap.size → SeensR W v l
section
variable {B : Nat} {w w' : World} {v : Value} {l : List SeenT}

theorem SeensF.now (h : SeensF B w v l) : SeensR w v l := h w (fun _ _ _ => rfl) (Nat.le_refl _)

theorem SeensF.keep (h : SeensF B w v l) (hk : ∀ b, B ≤ b → b < w.heap.size → w'.heap[b]? = w.heap[b]?) (hz : w.heap.size ≤ w'.heap.size) : SeensF B w' v l := fun W hW hz' =>
 h W (fun b h1 h2 => (hW b h1 (Nat.lt_of_lt_of_le h2 hz)).trans (hk b h1 h2)) (Nat.le_trans hz hz')

theorem SeensF.only {R : Nat} (h : SeensF B w v l) (hR : R < B) (g : w.grownBy w' (some R)) : SeensF B w' v l := h.keep (fun b h1 h2 => g.block b h2 (fun e => by injection e with e; omega)) g.size

theorem SeensF.below (h : SeensF B w v l) (g : Below w.heap.size w w') : SeensF B w' v l := h.keep (fun b _ h2 => g.block b h2) g.size

theorem SeensF.set {X o : Nat} {u : Value} (hX : X < B) (h : SeensF B w v l) : SeensF B (w.setCell ⟨X, o, none⟩ u) v l := h.keep (fun b h1 h2 => Below.heap_setCell _ _ _ _ (show b ≠ X by omega)) (by simp)
end

/-- v is a slice of alerts that lies in blocks from B on. -/
def AlertsF (B : Nat) (w : World) (v : Value) (l : List AlertT) : Prop := ∀ W : World, (∀ b, B ≤ b → b < w.heap.size → W.heap[b]? = w.heap[b]?) → w.heap.size ≤ W.heap.size → AlertsR W v l
section
variable {B : Nat} {w w' : World} {v : Value} {l : List AlertT}

theorem AlertsF.now (h : AlertsF B w v l) : AlertsR w v l := h w (fun _ _ _ => rfl) (Nat.le_refl _)

theorem AlertsF.keep (h : AlertsF B w v l) (hk : ∀ b, B ≤ b → b < w.heap.size → w'.heap[b]? = w.heap[b]?) (hz : w.heap.size ≤ w'.heap.size) : AlertsF B w' v l := fun W hW hz' =>
 h W (fun b h1 h2 => (hW b h1 (Nat.lt_of_lt_of_le h2 hz)).trans (hk b h1 h2)) (Nat.le_trans hz hz')

theorem AlertsF.only {R : Nat} (h : AlertsF B w v l) (hR : R < B) (g : w.grownBy w' (some R)) : AlertsF B w' v l := h.keep (fun b h1 h2 => g.block b h2 (fun e => by injection e with e; omega)) g.size

theorem AlertsF.below (h : AlertsF B w v l) (g : Below w.heap.size w w') : AlertsF B w' v l := h.keep (fun b _ h2 => g.block b h2) g.size
end

/-- Events under way. -/
structure SeenSt (B : Nat) (U : World) (fv : Value) (ps : List SeV) : Prop where
 hB : B ≤ U.heap.size
 ou : U.ownsRow B 55 5 fv ps.length (ps.flatMap rowSn)
 ap : ∀ p ∈ ps, ApI B fv.ownBlock U p.2 p.1.2.1

section
variable {B R : Nat} {U U' : World} {fv fv' : Value} {ps : List SeV}

theorem SeenSt.only (S : SeenSt B U fv ps) (hR : R < B) (g : U.grownBy U' (some R)) : SeenSt B U' fv ps :=
 ⟨Nat.le_trans S.hB g.size, own_at S.ou fun b hb => g.block b (S.ou.lt b hb).2 (fun e => by injection e with e; have := (S.ou.lt b hb).1; omega), fun p hp => (S.ap p hp).only hR g⟩

theorem SeenSt.later (S : SeenSt B U fv ps) (g : Below U.heap.size U U') : SeenSt B U' fv ps :=
 ⟨Nat.le_trans S.hB g.size, own_at S.ou fun b hb => g.block b (S.ou.lt b hb).2, fun p hp => (S.ap p hp).later g⟩

theorem SeenSt.drew (S : SeenSt B U fv ps) : SeenSt B U.drew fv ps := ⟨S.hB, S.ou, S.ap⟩

theorem SeenSt.set {X o : Nat} {u : Value} (hX : X < B) (S : SeenSt B U fv ps) : SeenSt B (U.setCell ⟨X, o, none⟩ u) fv ps := by
 have hb : ∀ b, B ≤ b → b < U.heap.size → (U.setCell ⟨X, o, none⟩ u).heap[b]? = U.heap[b]? := fun b h1 h2 => Below.heap_setCell _ _ _ _ (show b ≠ X by omega)
 exact ⟨by simpa using S.hB, own_at S.ou fun b h => hb b (S.ou.lt b h).1 (S.ou.lt b h).2, fun p hp => fun W hW hz => S.ap p hp W (fun b h0 h1 h2 => (hW b h0 h1 (by simpa using h2)).trans (hb b h0 h2)) (by simpa using hz)⟩

theorem SeenSt.nil (B : Nat) (U : World) (h : B ≤ U.heap.size) : SeenSt B U (.slice none 0 0) [] := ⟨h, World.ownsRow_nil _ _ _ _, fun p hp => by simp at hp⟩

theorem SeenSt.add {xv : Value} {t : SeenT} {C : Nat} (S : SeenSt B U fv ps) (hC : B ≤ C) (hC2 : ∀ b, fv.ownBlock = some b → b < C) (hx : Ints .i64 U xv t.2.1) (hf : Fresh C xv) (ho : U'.ownsRow B 55 5 fv' (ps.length + 1) (ps.flatMap rowSn ++ rowSn (t, xv))) (g : U.grownBy U' fv.ownBlock) (hn : NewB U fv fv') : SeenSt B U' fv' (ps ++ [(t, xv)]) := by
 refine ⟨Nat.le_trans S.hB g.size, ?_, fun p hp => ?_⟩
 ·rw [List.length_append, List.flatMap_append]
  simpa using ho
 ·rcases List.mem_append.1 hp with hp | hp
  ·exact (S.ap p hp).grown g hn
  ·obtain rfl : p = (t, xv) := by simpa using hp
   exact (ApI.fresh hx hf hC hC2).grown g hn

theorem SeenSt.fin (S : SeenSt B U fv ps) (hn : ps.length ≤ 1000) : SeensF B U fv (ps.map (·.1)) := fun W hW hz =>
 own_seens (own_at S.ou fun b hb => hW b (S.ou.lt b hb).1 (S.ou.lt b hb).2) rfl hn fun p hp => S.ap p hp W (fun b h0 _ h2 => hW b h0 h2) hz
end
end Go.Proofs.YtgobbecpnjelmaaGreat
