/-
  Slices of pairs of integers (scores, ratios): how they lie; append of a whole one.
-/
import Derived.Test.YtoljilbldkbjpaaKit
namespace Go.Proofs.Ytoljilbldkbjpaa
open Go.RowKit

/-- v is a slice of pairs of integers. -/
def PairsR (w : World) (v : Value) (l : List (Int × Int)) : Prop :=
  ∃ a c, v = .slice a l.length c ∧ l.length ≤ c ∧ c ≤ 9223372036854775807 ∧ l.length ≤ 140737488351232 ∧ ∀ (i : Nat) (p : Int × Int), l[i]? = some p →
    ∃ b o, a = some ⟨b, o, none⟩ ∧ b < w.heap.size ∧ w.cell? ⟨b, o + i * 2, none⟩ = some (.int .i64 p.1) ∧ w.cell? ⟨b, o + i * 2 + 1, none⟩ = some (.int .i64 p.2)

theorem PairsR.shape {w : World} {v : Value} {l : List (Int × Int)} (h : PairsR w v l) : ∃ a c, v = .slice a l.length c := by
  obtain ⟨a, c, e, _⟩ := h
  exact ⟨a, c, e⟩

theorem PairsR.below {w w' : World} {v : Value} {l : List (Int × Int)} (h : PairsR w v l) (B : Below w.heap.size w w') : PairsR w' v l := by
  obtain ⟨a, c, e, h1, h2, h3, h⟩ := h
  refine ⟨a, c, e, h1, h2, h3, fun i p hi => ?_⟩
  obtain ⟨b, o, e, hb, c0, c1⟩ := h i p hi
  exact ⟨b, o, e, Nat.lt_of_lt_of_le hb B.size, (B.cell (p := ⟨b, _, none⟩) hb).trans c0, (B.cell (p := ⟨b, _, none⟩) hb).trans c1⟩

theorem PairsR.drewN {w : World} {v : Value} {l : List (Int × Int)} (h : PairsR w v l) (n : Nat) : PairsR (w.drewN n) v l := h.below (below_drewN (Below.refl _ _) n)

theorem pairs_nil (w : World) (a : Option Addr) (c : Nat) (hc : c ≤ 9223372036854775807) : PairsR w (.slice a 0 c) [] :=
  ⟨a, c, rfl, Nat.zero_le _, hc, by simp, fun i p hi => by simp at hi⟩

theorem PairsR.at {w : World} {b o n c : Nat} {l : List (Int × Int)} (h : PairsR w (.slice (some ⟨b, o, none⟩) n c) l) {i : Nat} {p : Int × Int} (hi : l[i]? = some p) :
    b < w.heap.size ∧ w.cell? ⟨b, o + i * 2, none⟩ = some (.int .i64 p.1) ∧ w.cell? ⟨b, o + i * 2 + 1, none⟩ = some (.int .i64 p.2) := by
  obtain ⟨a, c', e, _, _, _, g⟩ := h
  injection e with e1 e2 e3
  subst e1
  obtain ⟨b', o', e, hb, c0, c1⟩ := g i p hi
  injection e with e
  injection e with e1 e2
  subst e1 e2
  exact ⟨hb, c0, c1⟩

/-- A slice that holds something has an address. -/
theorem PairsR.addr {w : World} {a : Option Addr} {n c : Nat} {l : List (Int × Int)} (h : PairsR w (.slice a n c) l) (hl : 0 < l.length) : ∃ b o, a = some ⟨b, o, none⟩ := by
  obtain ⟨p, hp⟩ := getElem?_ex hl
  obtain ⟨_, _, e, _, _, _, g⟩ := h
  injection e with e1 e2 e3
  subst e1
  obtain ⟨b, o, e, _⟩ := g 0 p hp
  exact ⟨b, o, e⟩

/-- A part of a slice of pairs. -/
theorem PairsR.cutAt {w : World} {b o n c : Nat} {l : List (Int × Int)} (h : PairsR w (.slice (some ⟨b, o, none⟩) n c) l) {i m : Nat} (hi : i + m ≤ l.length) {o' : Nat} (ho : o' = o + i * 2) (c' : Nat) (hc : m ≤ c') (hc2 : c' ≤ 9223372036854775807) :
    PairsR w (.slice (some ⟨b, o', none⟩) m c') ((l.drop i).take m) := by
  subst ho
  have hl : ((l.drop i).take m).length = m := by rw [List.length_take, List.length_drop]; omega
  have h3 : l.length ≤ 140737488351232 := by obtain ⟨_, _, _, _, _, h3, _⟩ := h; exact h3
  refine ⟨_, c', by rw [hl], by omega, hc2, by omega, fun j p hj => ?_⟩
  have hjm : j < m := by rw [← hl]; exact (List.getElem?_eq_some_iff.1 hj).1
  rw [List.getElem?_take, if_pos hjm, List.getElem?_drop] at hj
  obtain ⟨g1, g2, g3⟩ := h.at hj
  rw [show (i + j) * 2 = i * 2 + j * 2 by omega, ← Nat.add_assoc] at g2 g3
  exact ⟨b, o + i * 2, rfl, g1, g2, g3⟩

def pairF (p : Int × Int) : List Value := [.int .i64 p.1, .int .i64 p.2]

theorem pairF_at : ∀ (ps : List (Int × Int)) (i : Nat) (p : Int × Int), ps[i]? = some p → (ps.flatMap pairF)[i * 2]? = some (.int .i64 p.1) ∧ (ps.flatMap pairF)[i * 2 + 1]? = some (.int .i64 p.2)
  | [], i, p, h => by simp at h
  | q :: ps, 0, p, h => by
    obtain rfl : q = p := by simpa using h
    exact ⟨rfl, rfl⟩
  | q :: ps, i + 1, p, h => by
    have := pairF_at ps i p (by simpa using h)
    rw [List.flatMap_cons]
    have e1 : (i + 1) * 2 = i * 2 + 1 + 1 := by omega
    rw [e1]
    exact this

theorem pairF_len (ps : List (Int × Int)) : (ps.flatMap pairF).length = ps.length * 2 := by
  induction ps with
  | nil => rfl
  | cons p ps ih => rw [List.flatMap_cons, List.length_append, ih, List.length_cons]; simp [pairF]; omega

theorem pairF_one {ps : List (Int × Int)} {u : Value} (h : u ∈ ps.flatMap pairF) : ∃ z : Int, u = .int .i64 z := by
  obtain ⟨p, _, hp⟩ := List.mem_flatMap.1 h
  simp only [pairF, List.mem_cons, List.not_mem_nil, or_false] at hp
  rcases hp with rfl | rfl
  · exact ⟨_, rfl⟩
  · exact ⟨_, rfl⟩

theorem own_pairs {w : World} {base e n : Nat} {v : Value} {ps : List (Int × Int)} (h : w.ownsRow base e 2 v n (ps.flatMap pairF)) (hn : n = ps.length) (hb : ps.length ≤ 140737488351232) : PairsR w v ps := by
  subst hn
  rcases h.2 with ⟨rfl, h0⟩ | ⟨g, cap, cur, rfl, _, hg, h1, h2, h3, h4⟩
  · have : ps = [] := List.eq_nil_of_length_eq_zero h0
    subst this
    exact pairs_nil _ _ _ (by omega)
  · refine ⟨some ⟨g, 0, none⟩, cap, rfl, h1, by simpa [maxLen] using h2, hb, fun i p hi => ?_⟩
    have hlt : i < ps.length := (List.getElem?_eq_some_iff.1 hi).1
    obtain ⟨r0, r1⟩ := pairF_at ps i p hi
    have c0 := (h.cellAt (i * 2) (by omega)).trans r0
    have c1 := (h.cellAt (i * 2 + 1) (by omega)).trans r1
    exact ⟨g, 0, rfl, (Array.getElem?_eq_some_iff.1 hg).1, by rw [Nat.zero_add]; exact c0, by rw [Nat.zero_add]; exact c1⟩

/-- Append of a whole slice of pairs onto a row of the call's own. -/
theorem appPairs {P : Program} {ops : Array Oper} {rest : List Oper} {o : Oper} {a : Act} {Q : Exit → Act → World → Prop} (hgd : o.guard = none) (s x : Operand) (t : TypeId)
    (ho : o.op = .call { callee := .builtin .append, args := #[s, x], argTypes := #[t, t] })
    {e : TypeId} {z : Value} {bytes : Nat} (ht : P.underlying t = some (.slice e)) (hE : EI P e z 2 bytes)
    (base : Nat) {v : Value} {n : Nat} {xs : List Value} {W : World} {vx : Value} {l : List (Int × Int)} (hs : a.eval s = v) (hown : W.ownsRow base e 2 v n xs)
    (hx : a.eval x = vx) (hl : PairsR W vx l) (hbytes : (n + l.length) * bytes ≤ 140737488355328) (hbase : base ≤ W.heap.size)
    (h : ∀ v' w', w'.ownsRow base e 2 v' (n + l.length) (xs ++ l.flatMap pairF) → Below base W w' → W.grownBy w' v.ownBlock → wpList P ops Q rest (a.put o.dst v') w') :
    wpList P ops Q (o :: rest) a W := by
  obtain ⟨i, hi, hz, hsize, hby, hzs, hsz, hbp⟩ := hE
  have h63 : n + l.length ≤ 140737488355328 := Nat.le_trans (Nat.le_mul_of_pos_right _ hbp) hbytes
  obtain ⟨ad, c, rfl, g1, g2, g3, h4⟩ := hl
  rcases ad with _ | ad
  · have hl0 : l = [] := by
      cases l with
      | nil => rfl
      | cons x l => obtain ⟨b, o, e, _⟩ := h4 0 x rfl; cases e
    subst hl0
    have hrun : (Builtin.append_ #[t, t] o.type #[v, .slice none 0 c]).run P W = .ok v W := by
      rcases hown.2 with ⟨rfl, rfl⟩ | ⟨g, cap, cur, rfl, _, _, hnc, _⟩
      · simp [Builtin.append_, run_underlying ht, sizeOf, typeInfo, hi, Builtin.lenOf, Builtin.firstCells]
      · simp [Builtin.append_, run_underlying ht, sizeOf, typeInfo, hi, Builtin.lenOf, Builtin.firstCells, hnc, storeCells]
    refine wpList_plain hgd fun K hK => ?_
    unfold Oper.wp execOp
    simp only [ho, resolve, invoke, builtin, Sem.run_bind, Sem.run_pure, Result.andThen_ok, List.map_toArray, List.map_cons, List.map_nil, hs, hx, List.length_nil, hrun]
    exact hK _ _ (h v W (by simpa using hown) (Below.refl _ _) ⟨rfl, rfl, rfl, Nat.le_refl _, fun _ _ _ => rfl⟩)
  · refine wpList_append_own _ hgd s x t ho base e i z 2 bytes ht hi hz hsize hby hzs hsz v n xs hs hown ad l.length c (l.flatMap pairF) hx (pairF_len l) ?_ (by intro u hu; obtain ⟨y, rfl⟩ := pairF_one hu; rfl) (by unfold maxLen; omega) hbytes hbase ?_
    · intro j u hu
      have hjl : j < l.length * 2 := by rw [← pairF_len]; exact (List.getElem?_eq_some_iff.1 hu).1
      obtain ⟨p, hp⟩ := getElem?_ex (l := l) (k := j / 2) (by omega)
      obtain ⟨r0, r1⟩ := pairF_at l (j / 2) p hp
      obtain ⟨b, o, e, _, c0, c1⟩ := h4 (j / 2) p hp
      injection e with e
      subst e
      have hadd : (⟨b, o, none⟩ : Addr).add j = ⟨b, o + j, none⟩ := by unfold Addr.add; split <;> simp_all
      rw [hadd]
      rcases Nat.mod_two_eq_zero_or_one j with hm | hm
      · have ej : j / 2 * 2 = j := by omega
        rw [ej] at r0 c0
        rw [c0, ← hu, r0]
      · have ej : j / 2 * 2 + 1 = j := by omega
        rw [ej] at r1
        rw [Nat.add_assoc, ej] at c1
        rw [c1, ← hu, r1]
    · intro v' w' hown' hg _
      exact h v' w' hown' ((Below.refl _ _).grown hg hbase fun k hk => (hown.lt k hk).1) hg
end Go.Proofs.Ytoljilbldkbjpaa
