/-
  Append of one element at a step of a region that draws its order.
-/
import Derived.Test.YtoljilbldkbjpaaKit
import Derived.Deep.RegionHeld3
namespace Go.Proofs.Ytoljilbldkbjpaa
open Go.RowKit

/-- app1 at a step of a region that draws its order: all other blocks are as they were. -/
theorem app1_stepG {P : Program} {ops : Array Oper} {o : Oper} {a : Act} {K : Act → World → Prop} {Q : Exit → Act → World → Prop} {E : Prop} (hgd : o.guard = none) (s x : Operand) (t : TypeId)
    (ho : o.op = .call { callee := .builtin .append, args := #[s, x], argTypes := #[t, t] })
    {e : TypeId} {z : Value} {size bytes : Nat} (ht : P.underlying t = some (.slice e)) (hE : EI P e z size bytes)
    (base : Nat) {v : Value} {n : Nat} {xs : List Value} {W : World} {m : Nat} {cs : Array Value} {T : TypeId} {C : Nat} (hs : a.eval s = v) (hown : W.ownsRow base e size v n xs)
    (hx : a.eval x = .slice (some ⟨W.heap.size, 0, none⟩) 1 C) (hcs : cs.size = size) (h1 : ∀ u ∈ cs.toList, u.oneCell' = true)
    (hbytes : (n + 1) * bytes ≤ 140737488355328) (hbase : base ≤ W.heap.size)
    (h : ∀ v' w', w'.ownsRow base e size v' (n + 1) (xs ++ cs.toList) → Below base W w' → (∀ q, q < W.heap.size → v.ownBlock ≠ some q → w'.heap[q]? = W.heap[q]?) → K (a.put o.dst v') w') :
    if Region.wanted o (yielded ops a.tmps) = true then o.wp P a ((W.alloc (.cells cs T)).drewN m) K Q else E := by
  have hw : Region.wanted o (yielded ops a.tmps) = true := by unfold Region.wanted; rw [hgd]
  rw [if_pos hw]
  obtain ⟨i, hi, hz, hsize, hby, hzs, hsz, hbp⟩ := hE
  have h63 : n + 1 ≤ 140737488355328 := Nat.le_trans (Nat.le_mul_of_pos_right _ hbp) hbytes
  have hown2 : ((W.alloc (.cells cs T)).drewN m).ownsRow base e size v n xs := hown.alloc _
  obtain ⟨v', w', hrun, h2, h3, _⟩ := run_append_own_at (P := P) ((W.alloc (.cells cs T)).drewN m) base t o.type e i z size bytes ht hi hz hsize hby hzs hsz v n xs hown2 ⟨W.heap.size, 0, none⟩ 1 C cs.toList (by simp [hcs]) (by
    intro j u hu
    have hadd : (⟨W.heap.size, 0, none⟩ : Addr).add j = ⟨W.heap.size, j, none⟩ := by unfold Addr.add; split <;> simp_all
    rw [hadd]
    have hb := heap_alloc_new W (.cells cs T)
    show (W.alloc (.cells cs T)).cell? _ = _
    simp only [World.cell?, hb]
    simpa using hu) h1 (by unfold maxLen; omega) hbytes (by show base ≤ (W.alloc (.cells cs T)).heap.size; simp; omega)
  unfold Oper.wp execOp
  simp only [ho, resolve, invoke, builtin, Sem.run_bind, Sem.run_pure, Result.andThen_ok, List.map_toArray, List.map_cons, List.map_nil, hs, hx, hrun]
  refine h v' w' h2 ?_ (fun q hq hne => (h3.block q (by show q < (W.alloc (.cells cs T)).heap.size; simp; omega) (fun h => hne h.symm)).trans (Below.heap_alloc _ _ _ hq))
  refine Below.trans ((Below.refl _ _).alloc hbase (.cells cs T)) ?_
  exact (below_drewN (Below.refl _ _) m).trans ((Below.refl _ _).grown h3 (by show base ≤ (W.alloc (.cells cs T)).heap.size; simp; omega) fun k hk => (hown.lt k hk).1)

/-- app1 at a step of a region that draws its order. -/
theorem app1_step {P : Program} {ops : Array Oper} {o : Oper} {a : Act} {K : Act → World → Prop} {Q : Exit → Act → World → Prop} {E : Prop} (hgd : o.guard = none) (s x : Operand) (t : TypeId)
    (ho : o.op = .call { callee := .builtin .append, args := #[s, x], argTypes := #[t, t] })
    {e : TypeId} {z : Value} {size bytes : Nat} (ht : P.underlying t = some (.slice e)) (hE : EI P e z size bytes)
    (base : Nat) {v : Value} {n : Nat} {xs : List Value} {W : World} {m : Nat} {cs : Array Value} {T : TypeId} {C : Nat} (hs : a.eval s = v) (hown : W.ownsRow base e size v n xs)
    (hx : a.eval x = .slice (some ⟨W.heap.size, 0, none⟩) 1 C) (hcs : cs.size = size) (h1 : ∀ u ∈ cs.toList, u.oneCell' = true)
    (hbytes : (n + 1) * bytes ≤ 140737488355328) (hbase : base ≤ W.heap.size)
    (h : ∀ v' w', w'.ownsRow base e size v' (n + 1) (xs ++ cs.toList) → Below base W w' → K (a.put o.dst v') w') :
    if Region.wanted o (yielded ops a.tmps) = true then o.wp P a ((W.alloc (.cells cs T)).drewN m) K Q else E :=
  app1_stepG hgd s x t ho ht hE base hs hown hx hcs h1 hbytes hbase fun v' w' a b _ => h v' w' a b

theorem i64_wrap {z : Int} (h : -9223372036854775808 ≤ z) (h' : z ≤ 9223372036854775807) : IntKind.i64.wrap z = z := by
  rw [IntKind.wrap_i64]; omega

end Go.Proofs.Ytoljilbldkbjpaa
