/-
  Small laws that all walks share: results, bounds, readings behind draws, append of a whole list.
-/
import Derived.Test.YtoljilbldkbjpaaBase
import Derived.Deep.Draws
import Derived.Maps.AppendAt
namespace Go.Proofs.Ytoljilbldkbjpaa
open Go.RowKit

def Ok64 (z : Int) : Prop := -9223372036854775808 ≤ z ∧ z ≤ 9223372036854775807

instance (z : Int) : Decidable (Ok64 z) := by unfold Ok64; infer_instance

theorem ret2 {k k' : IntKind} {a b c d : Int} (h : a = c) (h' : b = d) : Ending.returned (.tuple #[.int k a, .int k' b]) = .returned (.tuple #[.int k c, .int k' d]) := by rw [h, h']

theorem ret3 {k k' k'' : IntKind} {a b c d e f : Int} (h : a = c) (h' : b = d) (h'' : e = f) : Ending.returned (.tuple #[.int k a, .int k' b, .int k'' e]) = .returned (.tuple #[.int k c, .int k' d, .int k'' f]) := by rw [h, h', h'']

theorem getD_of {α : Type} {l : List α} {i : Nat} {x d : α} (h : l[i]? = some x) : l.getD i d = x := by simp [h]

theorem quiet_left {P : Program} {f : FuncId} {args : Array Value} {w : World} {n : Nat} {v : Value}
    (h : Calls P f args (w.drewN n) fun e w' => e = .returned v ∧ w.drewN n = w') : Calls P f args (w.drewN n) fun e w'' => e = .returned v ∧ ∃ m, w'' = w.drewN m :=
  h.mono fun _ _ ⟨he, hm⟩ => ⟨he, n, hm.symm⟩

theorem below_drewN {B : Nat} {a w : World} (h : Below B a w) (n : Nat) : Below B a (w.drewN n) := ⟨h.os, h.tape, h.output, h.size, h.block⟩

theorem Ints.drewN {k : IntKind} {w : World} {v : Value} {l : List Int} (h : Ints k w v l) (n : Nat) : Ints k (w.drewN n) v l := h.below (below_drewN (Below.refl _ _) n)

theorem quiet_add_left {P : Program} {f : FuncId} {args : Array Value} {w : World} {a n : Nat} {v : Value}
    (h : Calls P f args (w.drewN (a + n)) fun e w' => e = .returned v ∧ w.drewN (a + n) = w') : Calls P f args (w.drewN (a + n)) fun e w'' => e = .returned v ∧ ∃ m, w'' = w.drewN (a + m) :=
  h.mono fun _ _ ⟨he, hm⟩ => ⟨he, n, hm.symm⟩

theorem Ints.cutAt {k : IntKind} {w : World} {ad : Option Addr} {n c : Nat} {l : List Int} (h : Ints k w (.slice ad n c) l) {i m : Nat} (hi : i + m ≤ l.length) {ad' : Option Addr} (c' : Nat) (hc : m ≤ c') (hc2 : c' ≤ 9223372036854775807)
    (ha : m ≠ 0 → ∀ b o, ad = some ⟨b, o, none⟩ → ad' = some ⟨b, o + i, none⟩) : Ints k w (.slice ad' m c') ((l.drop i).take m) := by
  obtain ⟨a0, c0, e, h1, h2, h3, h4⟩ := h
  injection e with e1 e2 e3
  subst e1 e2 e3
  have hlen : ((l.drop i).take m).length = m := by simp; omega
  refine ⟨ad', c', by rw [hlen], by omega, hc2, by omega, fun j x hj => ?_⟩
  have hjm : j < m := by have := (List.getElem?_eq_some_iff.1 hj).1; omega
  rw [List.getElem?_take, if_pos hjm, List.getElem?_drop] at hj
  obtain ⟨b, o, e, hb, hc⟩ := h4 (i + j) x hj
  exact ⟨b, o + i, ha (by omega) b o e, hb, by rw [Nat.add_assoc]; exact hc⟩

theorem Ints.new (k : IntKind) (W : World) (T : TypeId) (cs : Array Value) (l : List Int) (n c : Nat) (hcs : cs.toList = l.map (Value.int k)) (hn : n = l.length) (hc : n ≤ c) (hc2 : c ≤ 1000000) : Ints k (W.alloc (.cells cs T)) (.slice (some ⟨W.heap.size, 0, none⟩) n c) l := by
  subst hn
  refine ⟨_, _, rfl, hc, by omega, by omega, fun i x hi => ⟨W.heap.size, 0, rfl, by simp, ?_⟩⟩
  have hb := heap_alloc_new W (.cells cs T)
  simp only [World.cell?, hb]
  have : cs.toList[i]? = some (.int k x) := by rw [hcs]; simp [hi]
  simpa using this

theorem Ints.new' (k : IntKind) (W : World) (T : TypeId) (cs : Array Value) (l : List Int) (b n c : Nat) (hb : b = W.heap.size) (hcs : cs.toList = l.map (Value.int k)) (hn : n = l.length) (hc : n ≤ c) (hc2 : c ≤ 1000000) : Ints k (W.alloc (.cells cs T)) (.slice (some ⟨b, 0, none⟩) n c) l := by
  subst hb; exact Ints.new k W T cs l n c hcs hn hc hc2

/-- Append of a whole list of integers onto a row of the call's own. -/
theorem appInts {P : Program} {ops : Array Oper} {rest : List Oper} {o : Oper} {a : Act} {Q : Exit → Act → World → Prop} (hgd : o.guard = none) (s x : Operand) (t : TypeId)
    (ho : o.op = .call { callee := .builtin .append, args := #[s, x], argTypes := #[t, t] })
    {e : TypeId} {z : Value} {bytes : Nat} (ht : P.underlying t = some (.slice e)) (hE : EI P e z 1 bytes)
    (base : Nat) {v : Value} {n : Nat} {xs : List Value} {W : World} {k : IntKind} {vx : Value} {l : List Int} (hs : a.eval s = v) (hown : W.ownsRow base e 1 v n xs)
    (hx : a.eval x = vx) (hl : Ints k W vx l) (hbytes : (n + l.length) * bytes ≤ 140737488355328) (hbase : base ≤ W.heap.size)
    (h : ∀ v' w', w'.ownsRow base e 1 v' (n + l.length) (xs ++ l.map (Value.int k)) → Below base W w' → W.grownBy w' v.ownBlock → wpList P ops Q rest (a.put o.dst v') w') :
    wpList P ops Q (o :: rest) a W := by
  obtain ⟨i, hi, hz, hsize, hby, hzs, hsz, hbp⟩ := hE
  have h63 : n + l.length ≤ 140737488355328 := Nat.le_trans (Nat.le_mul_of_pos_right _ hbp) hbytes
  obtain ⟨ad, c, rfl, g1, g2, g3, h4⟩ := hl
  rcases ad with _ | ad
  · have hl0 : l = [] := by
      cases l with
      | nil => rfl
      | cons x l => obtain ⟨b, o, e, _⟩ := h4 0 x rfl; cases e
    subst hl0
    have hrun : (Builtin.append_ #[t, t] o.type #[v, .slice none 0 c]).run P W = .ok v W := by
      rcases hown.2 with ⟨rfl, rfl⟩ | ⟨g, cap, cur, rfl, _, _, hnc, _⟩
      · simp [Builtin.append_, run_underlying ht, sizeOf, typeInfo, hi, Builtin.lenOf, Builtin.firstCells]
      · simp [Builtin.append_, run_underlying ht, sizeOf, typeInfo, hi, Builtin.lenOf, Builtin.firstCells, hnc, storeCells]
    refine wpList_plain hgd fun K hK => ?_
    unfold Oper.wp execOp
    simp only [ho, resolve, invoke, builtin, Sem.run_bind, Sem.run_pure, Result.andThen_ok, List.map_toArray, List.map_cons, List.map_nil, hs, hx, List.length_nil, hrun]
    exact hK _ _ (h v W (by simpa using hown) (Below.refl _ _) ⟨rfl, rfl, rfl, Nat.le_refl _, fun _ _ _ => rfl⟩)
  · refine wpList_append_own _ hgd s x t ho base e i z 1 bytes ht hi hz hsize hby hzs hsz v n xs hs hown ad l.length c (l.map (Value.int k)) hx (by simp) ?_ (by intro u hu; simp at hu; obtain ⟨y, _, rfl⟩ := hu; rfl) (by unfold maxLen; omega) hbytes hbase ?_
    · intro j u hu
      rw [List.getElem?_map] at hu
      cases hy : l[j]? with
      | none => rw [hy] at hu; cases hu
      | some y =>
        rw [hy] at hu
        obtain ⟨b, o, e, _, hc⟩ := h4 j y hy
        injection e with e
        subst e
        have hadd : (⟨b, o, none⟩ : Addr).add j = ⟨b, o + j, none⟩ := by unfold Addr.add; split <;> simp_all
        rw [hadd, hc]
        simpa using hu
    · intro v' w' hown' hg _
      exact h v' w' hown' ((Below.refl _ _).grown hg hbase fun k hk => (hown.lt k hk).1) hg

theorem below_tr {B : Nat} {a b c : World} (h : Below B a b) (k : Below B b c) : Below B a c := h.trans k

theorem own_keep {w w' : World} {base e size n : Nat} {v : Value} {xs : List Value} (h : w.ownsRow base e size v n xs) (hk : ∀ g, base ≤ g → g < w.heap.size → w'.heap[g]? = w.heap[g]?) : w'.ownsRow base e size v n xs := by
  have hlt := h.lt
  refine ⟨h.1, ?_⟩
  rcases h.2 with h1 | ⟨g, cap, cur, rfl, h2, h3, h4⟩
  · exact .inl h1
  · exact .inr ⟨g, cap, cur, rfl, h2, (hk g (hlt g rfl).1 (hlt g rfl).2).trans h3, h4⟩

theorem ints_nil (k : IntKind) (w : World) (a : Option Addr) (c : Nat) (hc : c ≤ 9223372036854775807) : Ints k w (.slice a 0 c) [] := ⟨a, c, rfl, by simp, hc, by simp, fun i x h => by simp at h⟩

theorem Ints.len {k : IntKind} {w : World} {a : Option Addr} {n n' c : Nat} {l : List Int} (h : Ints k w (.slice a n c) l) (e : n = n') : Ints k w (.slice a n' c) l := by subst e; exact h

theorem quiet_same {P : Program} {f : FuncId} {args : Array Value} {w : World} {v : Value}
    (h : Calls P f args w fun e w' => e = .returned v ∧ w = w') : Calls P f args w fun e w'' => e = .returned v ∧ ∃ m, w'' = w.drewN m :=
  h.mono fun _ _ ⟨he, hm⟩ => ⟨he, 0, hm.symm⟩

theorem quiet_add {P : Program} {f : FuncId} {args : Array Value} {w : World} {a n : Nat} {v : Value}
    (h : Calls P f args (w.drewN (a + n)) fun e w' => e = .returned v ∧ ∃ m, w' = (w.drewN (a + n)).drewN m) :
    Calls P f args (w.drewN (a + n)) fun e w'' => e = .returned v ∧ ∃ m, w'' = w.drewN (a + m) :=
  h.mono fun _ _ ⟨he, m, hm⟩ => ⟨he, n + m, by rw [hm, World.drewN_drewN, Nat.add_assoc]⟩

/-- Append of a whole list of integers onto a row of the call's own, whatever its guard. -/
theorem appIntsW {P : Program} {ops : Array Oper} {rest : List Oper} {o : Oper} {a : Act} {Q : Exit → Act → World → Prop} (hgd : Region.wanted o (yielded ops a.tmps) = true) (s x : Operand) (t : TypeId)
    (ho : o.op = .call { callee := .builtin .append, args := #[s, x], argTypes := #[t, t] })
    {e : TypeId} {z : Value} {bytes : Nat} (ht : P.underlying t = some (.slice e)) (hE : EI P e z 1 bytes)
    (base : Nat) {v : Value} {n : Nat} {xs : List Value} {W : World} {k : IntKind} {vx : Value} {l : List Int} (hs : a.eval s = v) (hown : W.ownsRow base e 1 v n xs)
    (hx : a.eval x = vx) (hl : Ints k W vx l) (hbytes : (n + l.length) * bytes ≤ 140737488355328) (hbase : base ≤ W.heap.size)
    (h : ∀ v' w', w'.ownsRow base e 1 v' (n + l.length) (xs ++ l.map (Value.int k)) → Below base W w' → W.grownBy w' v.ownBlock → wpList P ops Q rest (a.put o.dst v') w') :
    wpList P ops Q (o :: rest) a W := by
  obtain ⟨i, hi, hz, hsize, hby, hzs, hsz, hbp⟩ := hE
  have h63 : n + l.length ≤ 140737488355328 := Nat.le_trans (Nat.le_mul_of_pos_right _ hbp) hbytes
  obtain ⟨ad, c, rfl, g1, g2, g3, h4⟩ := hl
  have hrun : ∃ v' w', (Builtin.append_ #[t, t] o.type #[v, .slice ad l.length c]).run P W = .ok v' w' ∧ w'.ownsRow base e 1 v' (n + l.length) (xs ++ l.map (Value.int k)) ∧ W.grownBy w' v.ownBlock := by
    rcases ad with _ | ad
    · have hl0 : l = [] := by
        cases l with
        | nil => rfl
        | cons x l => obtain ⟨b, o, e, _⟩ := h4 0 x rfl; cases e
      subst hl0
      refine ⟨v, W, ?_, by simpa using hown, ⟨rfl, rfl, rfl, Nat.le_refl _, fun _ _ _ => rfl⟩⟩
      rcases hown.2 with ⟨rfl, rfl⟩ | ⟨g, cap, cur, rfl, _, _, hnc, _⟩
      · simp [Builtin.append_, run_underlying ht, sizeOf, typeInfo, hi, Builtin.lenOf, Builtin.firstCells]
      · simp [Builtin.append_, run_underlying ht, sizeOf, typeInfo, hi, Builtin.lenOf, Builtin.firstCells, hnc, storeCells]
    · obtain ⟨v', w', hrun, h2, h3, _⟩ := run_append_own_at (P := P) W base t o.type e i z 1 bytes ht hi hz hsize hby hzs hsz v n xs hown ad l.length c (l.map (Value.int k)) (by simp) (by
        intro j u hu
        rw [List.getElem?_map] at hu
        cases hy : l[j]? with
        | none => rw [hy] at hu; cases hu
        | some y =>
          rw [hy] at hu
          obtain ⟨b, o, e, _, hc⟩ := h4 j y hy
          injection e with e
          subst e
          have hadd : (⟨b, o, none⟩ : Addr).add j = ⟨b, o + j, none⟩ := by unfold Addr.add; split <;> simp_all
          rw [hadd, hc]
          simpa using hu) (by intro u hu; simp at hu; obtain ⟨y, _, rfl⟩ := hu; rfl) (by unfold maxLen; omega) hbytes hbase
      exact ⟨v', w', hrun, h2, h3⟩
  obtain ⟨v', w', hrun, h2, h3⟩ := hrun
  refine wpList_step fun K hK => ?_
  rw [if_pos hgd]
  unfold Oper.wp execOp
  simp only [ho, resolve, invoke, builtin, Sem.run_bind, Sem.run_pure, Result.andThen_ok, List.map_toArray, List.map_cons, List.map_nil, hs, hx, hrun]
  exact hK _ _ (h v' w' h2 ((Below.refl _ _).grown h3 hbase fun k hk => (hown.lt k hk).1) h3)
end Go.Proofs.Ytoljilbldkbjpaa
