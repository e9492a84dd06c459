/-
  RowD: slices.Delete of one element of a row of the call's own.
  BagA: Walks of bag.odder, bag.halves and bag.place.
  BagB: How a bag lies; walk of its block.
  BagC: A bag's rows, changed: how they lie behind it; plain laws of the order.
  BagD: Plain laws of a bag: one more score.
-/
import Derived.Test.YtjmjnkilgoelbaaKRowI
import Derived.Laws.OwnMore
namespace Go.Proofs.Ytjmjnkilgoelbaa
open Go.RowKit

theorem append_step {P : Program} {w : World} {ops : Array Oper} {o : Oper} {a : Act} {K : Act → World → Prop} {Q : Exit → Act → World → Prop} {E : Prop} (hgd : o.guard = none) (s x : Operand) (t t' : TypeId)
    (ho : o.op = .call { callee := .builtin .append, args := #[s, x], argTypes := #[t, t'] }) {v u v' : Value} {w' : World} (hs : a.eval s = v) (hx : a.eval x = u)
    (hr : (Builtin.append_ #[t, t'] o.type #[v, u]).run P w = .ok v' w') (h : K (a.put o.dst v') w') : if Region.wanted o (yielded ops a.tmps) = true then o.wp P a w K Q else E := by
  have hw : Region.wanted o (yielded ops a.tmps) = true := by unfold Region.wanted; rw [hgd]
  rw [if_pos hw]
  unfold Oper.wp execOp
  simp only [ho, resolve, invoke, builtin, Sem.run_bind, Sem.run_pure, Result.andThen_ok, List.map_toArray, List.map_cons, List.map_nil, hs, hx, hr]
  exact h

theorem wpList_clear_run {P : Program} {w : World} {ops : Array Oper} {rest : List Oper} {o : Oper} {a : Act} {Q : Exit → Act → World → Prop} (hgd : o.guard = none) (s : Operand) (t : TypeId)
    (ho : o.op = .call { callee := .builtin .clear, args := #[s], argTypes := #[t] }) {v v' : Value} {w' : World} (hs : a.eval s = v)
    (hr : (Builtin.clear_ #[t] o.type #[v]).run P w = .ok v' w') (h : wpList P ops Q rest (a.put o.dst v') w') : wpList P ops Q (o :: rest) a w :=
  wpList_plain hgd fun K hK => by
    unfold Oper.wp execOp
    simp only [ho, resolve, invoke, builtin, Sem.run_bind, Sem.run_pure, Result.andThen_ok, List.map_toArray, List.map_cons, List.map_nil, hs, hr]
    exact hK _ _ h

set_option maxRecDepth 100000 in
set_option maxHeartbeats 4000000 in
/-- slices.Delete of one element of a row of the call's own. -/
theorem delS_any (base : Nat) (v : Value) (n i : Nat) (xs : List Value) (w : World) (hown : w.ownsRow base 24 2 v n xs) (hi : i < n) (hn : n ≤ 1000000) (h2 : ∀ u ∈ xs, u.oneCell' = true) :
    Calls Try.prog 88 #[v, .int .i64 i, .int .i64 ((i : Int) + 1)] w fun e w' => ∃ v', e = .returned v' ∧ w'.ownsRow base 24 2 v' (n - 1) (xs.take (i * 2) ++ xs.drop ((i + 1) * 2)) ∧ w.grownBy w' v.ownBlock ∧ v'.ownBlock = v.ownBlock := by
  have hxl := hown.1
  rcases hown.2 with ⟨_, h0⟩ | ⟨g, cap, cur, rfl, hb, hrow, hc1, hcm, hcur, hxs⟩
  · omega
  clear hown
  change RowAt w g 24 cur at hrow
  obtain ⟨ti, hti, hz0, hsize, _⟩ := eiScore
  have hget : ∀ j, j < n * 2 → cur[j]? = xs[j]? := fun j hj => by rw [← hxs, List.getElem?_take, if_pos hj, Array.getElem?_toList]
  obtain ⟨W2, hW2⟩ : ∃ W, w.drew.setCells g (0 + i * ti.size) (xs.drop ((i + 1) * 2)) = W := ⟨_, rfl⟩
  have r2 : RowAt W2 g 24 (ovw cur (0 + i * ti.size) (xs.drop ((i + 1) * 2))) := by rw [← hW2]; exact RowAt.sets (xs.drop ((i + 1) * 2)) (w := w.drew) _ hrow
  have k2 : ∀ q, q ≠ g → W2.heap[q]? = w.heap[q]? := fun q hq => by rw [← hW2]; exact sets_other (xs.drop ((i + 1) * 2)) w.drew _ hq
  have b2 : Below 0 w W2 := by rw [← hW2]; exact sets_below (Nat.zero_le g) (xs.drop ((i + 1) * 2)) _ ((Below.refl 0 w).drew)
  have hap : ∀ ty a l2 c2, l2 = n - (i + 1) → (0 < l2 → a = ⟨g, (i + 1) * 2, none⟩) → (Builtin.append_ #[28, 28] ty #[.slice (some ⟨g, 0, none⟩) i cap, .slice (some a) l2 c2]).run Try.prog w.drew = .ok (.slice (some ⟨g, 0, none⟩) (n - 1) cap) W2 := by
    rintro ty a l2 c2 rfl ha
    rw [← hW2, show n - 1 = i + (n - (i + 1)) by omega]
    refine run_append_room_src w.drew 28 28 ty 24 ti Try.underlying28 hti g 0 i cap _ (n - (i + 1)) (xs.drop ((i + 1) * 2)) (Src.ofSlice w.drew Try.underlying28 a _ _ _ (by rw [List.length_drop, hxl, hsize]; omega) ?_ (fun u hu => h2 u (List.mem_of_mem_drop hu))) (by omega) ?_ ?_
    · intro j u hj
      have hjl : j < n * 2 - (i + 1) * 2 := by have := (List.getElem?_eq_some_iff.1 hj).1; rw [List.length_drop, hxl] at this; exact this
      rw [ha (by omega), Addr.add_lit]; show w.cell? _ = _; rw [hrow.cell, hget _ (by omega)]; rwa [List.getElem?_drop] at hj
    · intro j hj
      rw [List.length_drop, hxl] at hj
      show (w.cell? _).isSome = _
      rw [hrow.cell, Array.getElem?_eq_getElem (by rw [hcur, hsize]; have : n * 2 ≤ cap * 2 := Nat.mul_le_mul_right _ hc1; omega)]; rfl
    · intro j hj; exact hrow.frozen _
  obtain ⟨W3, hW3⟩ : ∃ W, W2.setCells g ((n - 1) * 2) [Value.int .i64 0, Value.int .i64 0] = W := ⟨_, rfl⟩
  have r3 : RowAt W3 g 24 (ovw (ovw cur (0 + i * ti.size) (xs.drop ((i + 1) * 2))) ((n - 1) * 2) [Value.int .i64 0, Value.int .i64 0]) := by rw [← hW3]; exact r2.sets _ _
  have hcs : (n - 1) * 2 + 2 ≤ cur.size := by rw [hcur]; have : n * 2 ≤ cap * 2 := Nat.mul_le_mul_right _ hc1; omega
  have hcl : ∀ ty o l c, o = (n - 1) * 2 → l = 1 → (Builtin.clear_ #[28] ty #[.slice (some ⟨g, o, none⟩) l c]).run Try.prog W2 = .ok (.tuple #[]) W3 := by
    rintro ty o l c rfl rfl
    rw [← hW3]
    have hst := run_storeCells_cells (P := Try.prog) g ((n - 1) * 2) [Value.int .i64 0, Value.int .i64 0] 0 W2 (fun j hj => by
      rw [r2.cell, Array.getElem?_eq_getElem (by rw [ovw_size]; simp at hj; omega)]; rfl) (fun j hj => r2.frozen _) (by intro u hu; simp at hu; (try rcases hu with rfl | rfl) <;> (try subst hu) <;> rfl)
    have hzc : (Builtin.zeroCells (Value.cells (Value.agg #[Value.int .i64 0, Value.int .i64 0])) 1).toList = [Value.int .i64 0, Value.int .i64 0] := by kernel_rfl
    have hu : (underlying 28).run Try.prog W2 = .ok (.slice 24) W2 := run_underlying Try.underlying28 W2
    have hz : (zeroValue 24).run Try.prog W2 = .ok (Value.agg #[Value.int .i64 0, Value.int .i64 0]) W2 := by simp [zeroValue, typeInfo, hti, hz0]
    simp only [Nat.add_zero] at hst
    simp [Builtin.clear_, hu, hz, hzc, hst]
  have g3 : w.grownBy W3 (some g) := by
    have hB := sets_below (Nat.zero_le g) ([Value.int .i64 0, Value.int .i64 0] : List Value) ((n - 1) * 2) b2
    rw [hW3] at hB
    exact ⟨hB.os, hB.tape, hB.output, hB.size, fun q hq hne => by
      rw [← hW3]; exact (sets_other _ W2 _ (fun h => hne (by rw [h]))).trans (k2 q (fun h => hne (by rw [h])))⟩
  have hown := rowAt_own (base := base) (n := n - 1) (size := 2) (xs := xs.take (i * 2) ++ xs.drop ((i + 1) * 2)) hb r3 (by omega) hcm (by rw [ovw_size, ovw_size, hcur]) (by
    have hd : (xs.drop ((i + 1) * 2)).length = n * 2 - (i + 1) * 2 := by rw [List.length_drop, hxl]
    have ht : (xs.take (i * 2)).length = i * 2 := by rw [List.length_take, hxl]; omega
    apply List.ext_getElem?
    intro j
    rw [List.getElem?_take, Array.getElem?_toList, ovw_get _ _ _ _ (by rw [ovw_size]; simp; omega), ovw_get _ _ _ _ (by rw [hd, hsize]; omega), hd, hsize]
    by_cases h1 : j < (n - 1) * 2
    · rw [if_pos h1, if_pos h1]
      by_cases h3 : j < i * 2
      · rw [if_pos (by omega), List.getElem?_append_left (by omega), List.getElem?_take, if_pos h3, hget j (by omega)]
      · rw [if_neg (by omega), if_pos (by omega), List.getElem?_append_right (by omega), ht, Nat.zero_add]
    · rw [if_neg h1, List.getElem?_eq_none (by rw [List.length_append, hd, ht]; omega)])
  have HAP := Lib.hid hap
  have HCL := Lib.hid hcl
  have HO := Lib.hid hown
  have HB := Lib.hid g3
  have hC3 : (cap : Int) ≤ 9223372036854775807 := by unfold maxLen at hcm; omega
  have hC4 : ¬ (cap = i) := by omega
  have hC6 : (n : Int) ≤ (cap : Int) := by omega
  have hi3 : (i : Int) ≤ (n : Int) := by omega
  have hi4 : (i : Int) + 1 ≤ (n : Int) := by omega
  have hi5 : (0 : Int) ≤ (i : Int) + 1 := by omega
  have hi6 : (i : Int) ≤ (i : Int) + 1 := by omega
  have hi7 : (i : Int) ≤ (cap : Int) := by omega
  have hi8 : ((i : Int) == (i : Int) + 1) = false := by simp; omega
  have hi9 : ¬ ((i : Int) = (i : Int) + 1) := by omega
  have hn1 : (n : Int) ≤ 1000000 := by omega
  have hn2 : ((n - 1 : Nat) : Int) ≤ (n : Int) := by omega
  have hn3 : ¬ (cap = n - 1) := by omega
  have hn4 : n - (n - 1) = 1 := by omega
  have ht1 : ((i : Int) + 1).toNat = i + 1 := by omega
  clear hap hcl hown r2 r3 k2 b2 g3 hrow hcur hxs hW2 hW3 h2 hxl hget hcm hti hsize hz0 hcs hb
  by_cases hcn : cap = i + 1
  · obtain rfl : n = i + 1 := by omega
    subst hcn
    go_enter Try.func88, Try.ntmps88
    go_wp2_with fail
    refine wp_region_held_drew (S := fun w' => True) (by kernel_rfl) ?_ (fun hHeld => ?_); (focus (first | with_reducible exact True.intro | ((try dsimp only); and_intros <;> first | (go_simp; done) | (go_keep; done)))); (refine lexTk 0 (v := ?_) rfl hHeld ?_ (by kernel_rfl) (fun _ _ _ h => h) ?_ ?_; rotate_left 2; (focus rfl); (focus (intro w hSw; (try dsimp only at hSw); first | (go_simp; done) | (go_simp; with_reducible rfl)))); (try simp only [Act.put, List.setIfInBounds_toArray, List.set_cons_zero, List.set_cons_succ]); (refine lexTk 1 (v := ?_) rfl hHeld ?_ (by kernel_rfl) (fun _ _ _ h => h) ?_ ?_; rotate_left 2; (focus rfl); (focus (intro w hSw; (try dsimp only at hSw); first | (go_simp; done) | (go_simp; with_reducible rfl)))); (try simp only [Act.put, List.setIfInBounds_toArray, List.set_cons_zero, List.set_cons_succ]); (refine lexTk 2 (v := ?_) rfl hHeld ?_ (by kernel_rfl) (fun _ _ _ h => h) ?_ ?_; rotate_left 2; (focus rfl); (focus (intro w hSw; (try dsimp only at hSw); first | (go_simp; done) | (go_simp; with_reducible rfl)))); (try simp only [Act.put, List.setIfInBounds_toArray, List.set_cons_zero, List.set_cons_succ]); (refine lexTk 3 (v := ?_) rfl hHeld ?_ (by kernel_rfl) (fun _ _ _ h => h) ?_ ?_; rotate_left 2; (focus rfl); (focus (intro w hSw; (try dsimp only at hSw); first | (go_simp; done) | (go_simp; with_reducible rfl)))); (try simp only [Act.put, List.setIfInBounds_toArray, List.set_cons_zero, List.set_cons_succ]); (refine lexTk 4 (v := ?_) rfl hHeld ?_ (by kernel_rfl) (fun _ _ _ h => h) ?_ ?_; rotate_left 2; (focus rfl); (focus (intro w hSw; (try dsimp only at hSw); first | (go_simp; done) | (go_simp; with_reducible rfl)))); (try simp only [Act.put, List.setIfInBounds_toArray, List.set_cons_zero, List.set_cons_succ]); (refine lexTk 5 (v := ?_) rfl hHeld ?_ (by kernel_rfl) (fun _ _ _ h => h) ?_ ?_; rotate_left 2; (focus rfl); (focus (intro w hSw; (try dsimp only at hSw); first | (go_simp; done) | (go_simp; with_reducible rfl)))); (try simp only [Act.put, List.setIfInBounds_toArray, List.set_cons_zero, List.set_cons_succ]); refine lexHv 6 rfl ?_ (by kernel_rfl); (intro K hK); ((refine append_step rfl _ _ 28 28 rfl rfl rfl (HAP.out _ _ _ _ (by omega) (by intro hq; first | (exfalso; omega) | rfl | (simp; done))) ?_)); refine hK.out _ _ ?_ ?_; (focus (first | with_reducible exact True.intro | ((try dsimp only); and_intros <;> first | (go_simp; done) | (go_keep; done)))); (clear hHeld hK K); (intro hHeld); (try simp only [Act.put, List.setIfInBounds_toArray, List.set_cons_zero, List.set_cons_succ]); (refine lexTk 7 (v := ?_) rfl hHeld ?_ (by kernel_rfl) (fun _ _ _ h => h) ?_ ?_; rotate_left 2; (focus rfl); (focus (intro w hSw; (try dsimp only at hSw); first | (go_simp; done) | (go_simp; with_reducible rfl)))); (try simp only [Act.put, List.setIfInBounds_toArray, List.set_cons_zero]); refine wpAnyH_done (by kernel_rfl) ?_ _
    go_wp2_with (refine wpList_clear_run rfl _ 28 rfl rfl (HCL.out _ _ _ _ (by omega) (by omega)) ?_)
    go_ret
    exact ⟨_, rfl, HO.out, HB.out, rfl⟩
  · have hcn' := hcn
    go_enter Try.func88, Try.ntmps88
    go_wp2_with fail
    refine wp_region_held_drew (S := fun w' => True) (by kernel_rfl) ?_ (fun hHeld => ?_); (focus (first | with_reducible exact True.intro | ((try dsimp only); and_intros <;> first | (go_simp; done) | (go_keep; done)))); (refine lexTk 0 (v := ?_) rfl hHeld ?_ (by kernel_rfl) (fun _ _ _ h => h) ?_ ?_; rotate_left 2; (focus rfl); (focus (intro w hSw; (try dsimp only at hSw); first | (go_simp; done) | (go_simp; with_reducible rfl)))); (try simp only [Act.put, List.setIfInBounds_toArray, List.set_cons_zero, List.set_cons_succ]); (refine lexTk 1 (v := ?_) rfl hHeld ?_ (by kernel_rfl) (fun _ _ _ h => h) ?_ ?_; rotate_left 2; (focus rfl); (focus (intro w hSw; (try dsimp only at hSw); first | (go_simp; done) | (go_simp; with_reducible rfl)))); (try simp only [Act.put, List.setIfInBounds_toArray, List.set_cons_zero, List.set_cons_succ]); (refine lexTk 2 (v := ?_) rfl hHeld ?_ (by kernel_rfl) (fun _ _ _ h => h) ?_ ?_; rotate_left 2; (focus rfl); (focus (intro w hSw; (try dsimp only at hSw); first | (go_simp; done) | (go_simp; with_reducible rfl)))); (try simp only [Act.put, List.setIfInBounds_toArray, List.set_cons_zero, List.set_cons_succ]); (refine lexTk 3 (v := ?_) rfl hHeld ?_ (by kernel_rfl) (fun _ _ _ h => h) ?_ ?_; rotate_left 2; (focus rfl); (focus (intro w hSw; (try dsimp only at hSw); first | (go_simp; done) | (go_simp; with_reducible rfl)))); (try simp only [Act.put, List.setIfInBounds_toArray, List.set_cons_zero, List.set_cons_succ]); (refine lexTk 4 (v := ?_) rfl hHeld ?_ (by kernel_rfl) (fun _ _ _ h => h) ?_ ?_; rotate_left 2; (focus rfl); (focus (intro w hSw; (try dsimp only at hSw); first | (go_simp; done) | (go_simp; with_reducible rfl)))); (try simp only [Act.put, List.setIfInBounds_toArray, List.set_cons_zero, List.set_cons_succ]); (refine lexTk 5 (v := ?_) rfl hHeld ?_ (by kernel_rfl) (fun _ _ _ h => h) ?_ ?_; rotate_left 2; (focus rfl); (focus (intro w hSw; (try dsimp only at hSw); first | (go_simp; done) | (go_simp; with_reducible rfl)))); (try simp only [Act.put, List.setIfInBounds_toArray, List.set_cons_zero, List.set_cons_succ]); refine lexHv 6 rfl ?_ (by kernel_rfl); (intro K hK); ((refine append_step rfl _ _ 28 28 rfl rfl rfl (HAP.out _ _ _ _ (by omega) (by intro hq; first | (exfalso; omega) | rfl | (simp; done))) ?_)); refine hK.out _ _ ?_ ?_; (focus (first | with_reducible exact True.intro | ((try dsimp only); and_intros <;> first | (go_simp; done) | (go_keep; done)))); (clear hHeld hK K); (intro hHeld); (try simp only [Act.put, List.setIfInBounds_toArray, List.set_cons_zero, List.set_cons_succ]); (refine lexTk 7 (v := ?_) rfl hHeld ?_ (by kernel_rfl) (fun _ _ _ h => h) ?_ ?_; rotate_left 2; (focus rfl); (focus (intro w hSw; (try dsimp only at hSw); first | (go_simp; done) | (go_simp; with_reducible rfl)))); (try simp only [Act.put, List.setIfInBounds_toArray, List.set_cons_zero]); refine wpAnyH_done (by kernel_rfl) ?_ _
    go_wp2_with (refine wpList_clear_run rfl _ 28 rfl rfl (HCL.out _ _ _ _ (by omega) (by omega)) ?_)
    go_ret
    exact ⟨_, rfl, HO.out, HB.out, rfl⟩

set_option maxRecDepth 100000 in
set_option maxHeartbeats 4000000 in
/-- slices.Delete of one element of a row of the call's own. -/
theorem delB_any (base : Nat) (v : Value) (n i : Nat) (xs : List Value) (w : World) (hown : w.ownsRow base 28 1 v n xs) (hi : i < n) (hn : n ≤ 1000000) (h2 : ∀ u ∈ xs, u.oneCell' = true) :
    Calls Try.prog 89 #[v, .int .i64 i, .int .i64 ((i : Int) + 1)] w fun e w' => ∃ v', e = .returned v' ∧ w'.ownsRow base 28 1 v' (n - 1) (xs.take (i * 1) ++ xs.drop ((i + 1) * 1)) ∧ w.grownBy w' v.ownBlock ∧ v'.ownBlock = v.ownBlock := by
  have hxl := hown.1
  rcases hown.2 with ⟨_, h0⟩ | ⟨g, cap, cur, rfl, hb, hrow, hc1, hcm, hcur, hxs⟩
  · omega
  clear hown
  change RowAt w g 28 cur at hrow
  obtain ⟨ti, hti, hz0, hsize, _⟩ := eiRow
  have hget : ∀ j, j < n * 1 → cur[j]? = xs[j]? := fun j hj => by rw [← hxs, List.getElem?_take, if_pos hj, Array.getElem?_toList]
  obtain ⟨W2, hW2⟩ : ∃ W, w.drew.setCells g (0 + i * ti.size) (xs.drop ((i + 1) * 1)) = W := ⟨_, rfl⟩
  have r2 : RowAt W2 g 28 (ovw cur (0 + i * ti.size) (xs.drop ((i + 1) * 1))) := by rw [← hW2]; exact RowAt.sets (xs.drop ((i + 1) * 1)) (w := w.drew) _ hrow
  have k2 : ∀ q, q ≠ g → W2.heap[q]? = w.heap[q]? := fun q hq => by rw [← hW2]; exact sets_other (xs.drop ((i + 1) * 1)) w.drew _ hq
  have b2 : Below 0 w W2 := by rw [← hW2]; exact sets_below (Nat.zero_le g) (xs.drop ((i + 1) * 1)) _ ((Below.refl 0 w).drew)
  have hap : ∀ ty a l2 c2, l2 = n - (i + 1) → (0 < l2 → a = ⟨g, (i + 1) * 1, none⟩) → (Builtin.append_ #[128, 128] ty #[.slice (some ⟨g, 0, none⟩) i cap, .slice (some a) l2 c2]).run Try.prog w.drew = .ok (.slice (some ⟨g, 0, none⟩) (n - 1) cap) W2 := by
    rintro ty a l2 c2 rfl ha
    rw [← hW2, show n - 1 = i + (n - (i + 1)) by omega]
    refine run_append_room_src w.drew 128 128 ty 28 ti Try.underlying128 hti g 0 i cap _ (n - (i + 1)) (xs.drop ((i + 1) * 1)) (Src.ofSlice w.drew Try.underlying128 a _ _ _ (by rw [List.length_drop, hxl, hsize]; omega) ?_ (fun u hu => h2 u (List.mem_of_mem_drop hu))) (by omega) ?_ ?_
    · intro j u hj
      have hjl : j < n * 1 - (i + 1) * 1 := by have := (List.getElem?_eq_some_iff.1 hj).1; rw [List.length_drop, hxl] at this; exact this
      rw [ha (by omega), Addr.add_lit]; show w.cell? _ = _; rw [hrow.cell, hget _ (by omega)]; rwa [List.getElem?_drop] at hj
    · intro j hj
      rw [List.length_drop, hxl] at hj
      show (w.cell? _).isSome = _
      rw [hrow.cell, Array.getElem?_eq_getElem (by rw [hcur, hsize]; have : n * 1 ≤ cap * 1 := Nat.mul_le_mul_right _ hc1; omega)]; rfl
    · intro j hj; exact hrow.frozen _
  obtain ⟨W3, hW3⟩ : ∃ W, W2.setCells g ((n - 1) * 1) [Value.slice none 0 0] = W := ⟨_, rfl⟩
  have r3 : RowAt W3 g 28 (ovw (ovw cur (0 + i * ti.size) (xs.drop ((i + 1) * 1))) ((n - 1) * 1) [Value.slice none 0 0]) := by rw [← hW3]; exact r2.sets _ _
  have hcs : (n - 1) * 1 + 1 ≤ cur.size := by rw [hcur]; have : n * 1 ≤ cap * 1 := Nat.mul_le_mul_right _ hc1; omega
  have hcl : ∀ ty o l c, o = (n - 1) * 1 → l = 1 → (Builtin.clear_ #[128] ty #[.slice (some ⟨g, o, none⟩) l c]).run Try.prog W2 = .ok (.tuple #[]) W3 := by
    rintro ty o l c rfl rfl
    rw [← hW3]
    have hst := run_storeCells_cells (P := Try.prog) g ((n - 1) * 1) [Value.slice none 0 0] 0 W2 (fun j hj => by
      rw [r2.cell, Array.getElem?_eq_getElem (by rw [ovw_size]; simp at hj; omega)]; rfl) (fun j hj => r2.frozen _) (by intro u hu; simp at hu; (try rcases hu with rfl | rfl) <;> (try subst hu) <;> rfl)
    have hzc : (Builtin.zeroCells (Value.cells (Value.slice none 0 0)) 1).toList = [Value.slice none 0 0] := by kernel_rfl
    have hu : (underlying 128).run Try.prog W2 = .ok (.slice 28) W2 := run_underlying Try.underlying128 W2
    have hz : (zeroValue 28).run Try.prog W2 = .ok (Value.slice none 0 0) W2 := by simp [zeroValue, typeInfo, hti, hz0]
    simp only [Nat.add_zero, Nat.mul_one] at hst
    simp [Builtin.clear_, hu, hz, hzc, hst]
  have g3 : w.grownBy W3 (some g) := by
    have hB := sets_below (Nat.zero_le g) ([Value.slice none 0 0] : List Value) ((n - 1) * 1) b2
    rw [hW3] at hB
    exact ⟨hB.os, hB.tape, hB.output, hB.size, fun q hq hne => by
      rw [← hW3]; exact (sets_other _ W2 _ (fun h => hne (by rw [h]))).trans (k2 q (fun h => hne (by rw [h])))⟩
  have hown := rowAt_own (base := base) (n := n - 1) (size := 1) (xs := xs.take (i * 1) ++ xs.drop ((i + 1) * 1)) hb r3 (by omega) hcm (by rw [ovw_size, ovw_size, hcur]) (by
    have hd : (xs.drop ((i + 1) * 1)).length = n * 1 - (i + 1) * 1 := by rw [List.length_drop, hxl]
    have ht : (xs.take (i * 1)).length = i * 1 := by rw [List.length_take, hxl]; omega
    apply List.ext_getElem?
    intro j
    rw [List.getElem?_take, Array.getElem?_toList, ovw_get _ _ _ _ (by rw [ovw_size]; simp; omega), ovw_get _ _ _ _ (by rw [hd, hsize]; omega), hd, hsize]
    by_cases h1 : j < (n - 1) * 1
    · rw [if_pos h1, if_pos h1]
      by_cases h3 : j < i * 1
      · rw [if_pos (by omega), List.getElem?_append_left (by omega), List.getElem?_take, if_pos h3, hget j (by omega)]
      · rw [if_neg (by omega), if_pos (by omega), List.getElem?_append_right (by omega), ht, Nat.zero_add]
    · rw [if_neg h1, List.getElem?_eq_none (by rw [List.length_append, hd, ht]; omega)])
  have HAP := Lib.hid hap
  have HCL := Lib.hid hcl
  have HO := Lib.hid hown
  have HB := Lib.hid g3
  have hC3 : (cap : Int) ≤ 9223372036854775807 := by unfold maxLen at hcm; omega
  have hC4 : ¬ (cap = i) := by omega
  have hC6 : (n : Int) ≤ (cap : Int) := by omega
  have hi3 : (i : Int) ≤ (n : Int) := by omega
  have hi4 : (i : Int) + 1 ≤ (n : Int) := by omega
  have hi5 : (0 : Int) ≤ (i : Int) + 1 := by omega
  have hi6 : (i : Int) ≤ (i : Int) + 1 := by omega
  have hi7 : (i : Int) ≤ (cap : Int) := by omega
  have hi8 : ((i : Int) == (i : Int) + 1) = false := by simp; omega
  have hi9 : ¬ ((i : Int) = (i : Int) + 1) := by omega
  have hn1 : (n : Int) ≤ 1000000 := by omega
  have hn2 : ((n - 1 : Nat) : Int) ≤ (n : Int) := by omega
  have hn3 : ¬ (cap = n - 1) := by omega
  have hn4 : n - (n - 1) = 1 := by omega
  have ht1 : ((i : Int) + 1).toNat = i + 1 := by omega
  clear hap hcl hown r2 r3 k2 b2 g3 hrow hcur hxs hW2 hW3 h2 hxl hget hcm hti hsize hz0 hcs hb
  by_cases hcn : cap = i + 1
  · obtain rfl : n = i + 1 := by omega
    subst hcn
    go_enter Try.func89, Try.ntmps89
    go_wp2_with fail
    refine wp_region_held_drew (S := fun w' => True) (by kernel_rfl) ?_ (fun hHeld => ?_); (focus (first | with_reducible exact True.intro | ((try dsimp only); and_intros <;> first | (go_simp; done) | (go_keep; done)))); (refine lexTk 0 (v := ?_) rfl hHeld ?_ (by kernel_rfl) (fun _ _ _ h => h) ?_ ?_; rotate_left 2; (focus rfl); (focus (intro w hSw; (try dsimp only at hSw); first | (go_simp; done) | (go_simp; with_reducible rfl)))); (try simp only [Act.put, List.setIfInBounds_toArray, List.set_cons_zero, List.set_cons_succ]); (refine lexTk 1 (v := ?_) rfl hHeld ?_ (by kernel_rfl) (fun _ _ _ h => h) ?_ ?_; rotate_left 2; (focus rfl); (focus (intro w hSw; (try dsimp only at hSw); first | (go_simp; done) | (go_simp; with_reducible rfl)))); (try simp only [Act.put, List.setIfInBounds_toArray, List.set_cons_zero, List.set_cons_succ]); (refine lexTk 2 (v := ?_) rfl hHeld ?_ (by kernel_rfl) (fun _ _ _ h => h) ?_ ?_; rotate_left 2; (focus rfl); (focus (intro w hSw; (try dsimp only at hSw); first | (go_simp; done) | (go_simp; with_reducible rfl)))); (try simp only [Act.put, List.setIfInBounds_toArray, List.set_cons_zero, List.set_cons_succ]); (refine lexTk 3 (v := ?_) rfl hHeld ?_ (by kernel_rfl) (fun _ _ _ h => h) ?_ ?_; rotate_left 2; (focus rfl); (focus (intro w hSw; (try dsimp only at hSw); first | (go_simp; done) | (go_simp; with_reducible rfl)))); (try simp only [Act.put, List.setIfInBounds_toArray, List.set_cons_zero, List.set_cons_succ]); (refine lexTk 4 (v := ?_) rfl hHeld ?_ (by kernel_rfl) (fun _ _ _ h => h) ?_ ?_; rotate_left 2; (focus rfl); (focus (intro w hSw; (try dsimp only at hSw); first | (go_simp; done) | (go_simp; with_reducible rfl)))); (try simp only [Act.put, List.setIfInBounds_toArray, List.set_cons_zero, List.set_cons_succ]); (refine lexTk 5 (v := ?_) rfl hHeld ?_ (by kernel_rfl) (fun _ _ _ h => h) ?_ ?_; rotate_left 2; (focus rfl); (focus (intro w hSw; (try dsimp only at hSw); first | (go_simp; done) | (go_simp; with_reducible rfl)))); (try simp only [Act.put, List.setIfInBounds_toArray, List.set_cons_zero, List.set_cons_succ]); refine lexHv 6 rfl ?_ (by kernel_rfl); (intro K hK); ((refine append_step rfl _ _ 128 128 rfl rfl rfl (HAP.out _ _ _ _ (by omega) (by intro hq; first | (exfalso; omega) | rfl | (simp; done))) ?_)); refine hK.out _ _ ?_ ?_; (focus (first | with_reducible exact True.intro | ((try dsimp only); and_intros <;> first | (go_simp; done) | (go_keep; done)))); (clear hHeld hK K); (intro hHeld); (try simp only [Act.put, List.setIfInBounds_toArray, List.set_cons_zero, List.set_cons_succ]); (refine lexTk 7 (v := ?_) rfl hHeld ?_ (by kernel_rfl) (fun _ _ _ h => h) ?_ ?_; rotate_left 2; (focus rfl); (focus (intro w hSw; (try dsimp only at hSw); first | (go_simp; done) | (go_simp; with_reducible rfl)))); (try simp only [Act.put, List.setIfInBounds_toArray, List.set_cons_zero]); refine wpAnyH_done (by kernel_rfl) ?_ _
    go_wp2_with (refine wpList_clear_run rfl _ 128 rfl rfl (HCL.out _ _ _ _ (by omega) (by omega)) ?_)
    go_ret
    exact ⟨_, rfl, HO.out, HB.out, rfl⟩
  · have hcn' := hcn
    go_enter Try.func89, Try.ntmps89
    go_wp2_with fail
    refine wp_region_held_drew (S := fun w' => True) (by kernel_rfl) ?_ (fun hHeld => ?_); (focus (first | with_reducible exact True.intro | ((try dsimp only); and_intros <;> first | (go_simp; done) | (go_keep; done)))); (refine lexTk 0 (v := ?_) rfl hHeld ?_ (by kernel_rfl) (fun _ _ _ h => h) ?_ ?_; rotate_left 2; (focus rfl); (focus (intro w hSw; (try dsimp only at hSw); first | (go_simp; done) | (go_simp; with_reducible rfl)))); (try simp only [Act.put, List.setIfInBounds_toArray, List.set_cons_zero, List.set_cons_succ]); (refine lexTk 1 (v := ?_) rfl hHeld ?_ (by kernel_rfl) (fun _ _ _ h => h) ?_ ?_; rotate_left 2; (focus rfl); (focus (intro w hSw; (try dsimp only at hSw); first | (go_simp; done) | (go_simp; with_reducible rfl)))); (try simp only [Act.put, List.setIfInBounds_toArray, List.set_cons_zero, List.set_cons_succ]); (refine lexTk 2 (v := ?_) rfl hHeld ?_ (by kernel_rfl) (fun _ _ _ h => h) ?_ ?_; rotate_left 2; (focus rfl); (focus (intro w hSw; (try dsimp only at hSw); first | (go_simp; done) | (go_simp; with_reducible rfl)))); (try simp only [Act.put, List.setIfInBounds_toArray, List.set_cons_zero, List.set_cons_succ]); (refine lexTk 3 (v := ?_) rfl hHeld ?_ (by kernel_rfl) (fun _ _ _ h => h) ?_ ?_; rotate_left 2; (focus rfl); (focus (intro w hSw; (try dsimp only at hSw); first | (go_simp; done) | (go_simp; with_reducible rfl)))); (try simp only [Act.put, List.setIfInBounds_toArray, List.set_cons_zero, List.set_cons_succ]); (refine lexTk 4 (v := ?_) rfl hHeld ?_ (by kernel_rfl) (fun _ _ _ h => h) ?_ ?_; rotate_left 2; (focus rfl); (focus (intro w hSw; (try dsimp only at hSw); first | (go_simp; done) | (go_simp; with_reducible rfl)))); (try simp only [Act.put, List.setIfInBounds_toArray, List.set_cons_zero, List.set_cons_succ]); (refine lexTk 5 (v := ?_) rfl hHeld ?_ (by kernel_rfl) (fun _ _ _ h => h) ?_ ?_; rotate_left 2; (focus rfl); (focus (intro w hSw; (try dsimp only at hSw); first | (go_simp; done) | (go_simp; with_reducible rfl)))); (try simp only [Act.put, List.setIfInBounds_toArray, List.set_cons_zero, List.set_cons_succ]); refine lexHv 6 rfl ?_ (by kernel_rfl); (intro K hK); ((refine append_step rfl _ _ 128 128 rfl rfl rfl (HAP.out _ _ _ _ (by omega) (by intro hq; first | (exfalso; omega) | rfl | (simp; done))) ?_)); refine hK.out _ _ ?_ ?_; (focus (first | with_reducible exact True.intro | ((try dsimp only); and_intros <;> first | (go_simp; done) | (go_keep; done)))); (clear hHeld hK K); (intro hHeld); (try simp only [Act.put, List.setIfInBounds_toArray, List.set_cons_zero, List.set_cons_succ]); (refine lexTk 7 (v := ?_) rfl hHeld ?_ (by kernel_rfl) (fun _ _ _ h => h) ?_ ?_; rotate_left 2; (focus rfl); (focus (intro w hSw; (try dsimp only at hSw); first | (go_simp; done) | (go_simp; with_reducible rfl)))); (try simp only [Act.put, List.setIfInBounds_toArray, List.set_cons_zero]); refine wpAnyH_done (by kernel_rfl) ?_ _
    go_wp2_with (refine wpList_clear_run rfl _ 128 rfl rfl (HCL.out _ _ _ _ (by omega) (by omega)) ?_)
    go_ret
    exact ⟨_, rfl, HO.out, HB.out, rfl⟩
end Go.Proofs.Ytjmjnkilgoelbaa

namespace Go.Proofs.Ytjmjnkilgoelbaa
open Go.RowKit

set_option maxRecDepth 100000 in
set_option maxHeartbeats 4000000 in
theorem bodd_any (p q r s : Int) (w : World) (h1 : scoreB (p, q) = true) (h2 : scoreB (r, s) = true) :
    Calls Try.prog 84 #[.agg #[.int .i64 p, .int .i64 q], .agg #[.int .i64 r, .int .i64 s]] w fun e w' => e = .returned (.int .i64 (oddI (p, q) (r, s))) ∧ Below w.heap.size w w' := by
  have hc := fun W => scmp_any p q r s W
  rw [h1, h2] at hc
  simp only [Bool.and_self, if_true] at hc
  have HC := Lib.hid hc
  generalize oddI (p, q) (r, s) = R at *
  clear h1 h2 hc
  go_enter Try.func84, Try.ntmps84
  go_wp2_with fail
  (with_reducible refine (HC.out _).mono ?_); rintro e w1 ⟨rfl, b1⟩; have s1 : w.heap.size ≤ w1.heap.size := sz b1; have B1 := Lib.hid (Bc (B := w.heap.size) (a := w) (by (repeat (first | with_reducible exact Below.refl _ _ | with_reducible refine Bs ?_ | with_reducible refine Ba ?_ | with_reducible refine Bd ?_ | with_reducible refine Bn ?_))) b1); clear b1
  go_wp2_with fail
  go_ret
  exact ⟨rfl, B1.out⟩

set_option maxRecDepth 100000 in
set_option maxHeartbeats 4000000 in
/-- The first place at which what is asked for holds. -/
theorem halves_any (n : Nat) (f : FuncId) (caps : Array Value) (p : Nat → Bool) (w : World) (hcf : ∀ args W, Sem.run Try.prog (callFunc f args) W = Result.ok (Next.enter f args) W) (hn : n ≤ 100000)
    (hp : ∀ (i : Nat) W, i < n → Below w.heap.size w W → Calls Try.prog f (#[.int .i64 (i : Int)] ++ caps) W fun e w' => e = .returned (.bool (p i)) ∧ Below W.heap.size W w')
    (hm : ∀ i j, i ≤ j → j < n → p i = true → p j = true) :
    Calls Try.prog 82 #[.int .i64 n, .func (.func f) #[] caps] w fun e w' => ∃ r : Nat, e = .returned (.int .i64 r) ∧ r ≤ n ∧ (∀ i, i < r → p i = false) ∧ (∀ i, r ≤ i → i < n → p i = true) ∧ Below w.heap.size w w' := by
  have HP := Lib.hid hp
  have HM := Lib.hid hm
  clear hp hm
  go_enter Try.func82, Try.ntmps82
  go_wp2_with fail
  go_loopw [5, 6, 7] (fun lo hi _ wr => ∃ a b : Nat, lo = .int .i64 a ∧ hi = .int .i64 b ∧ a ≤ b ∧ b ≤ n ∧ (∀ i, i < a → p i = false) ∧ (∀ i, b ≤ i → i < n → p i = true) ∧ Below w.heap.size w wr) (fun lo hi _ _ => (intOf hi).toNat - (intOf lo).toNat)
  case atStart => exact ⟨0, n, rfl, rfl, by omega, by omega, fun i hi => by omega, fun i h1 h2 => by omega, by (repeat (first | with_reducible exact Below.refl _ _ | with_reducible refine Bs ?_ | with_reducible refine Ba ?_ | with_reducible refine Bd ?_ | with_reducible refine Bn ?_))⟩
  case round =>
    obtain ⟨a, b, rfl, rfl, hab, hbn, ha, hb, hbr⟩ := hrel
    have HA := Lib.hid ha
    have HB := Lib.hid hb
    have HBR := Lib.hid hbr
    clear ha hb hbr
    by_cases hlt : a < b
    · have i2 : (a : Int) < (b : Int) := by omega
      obtain ⟨m, hm⟩ : ∃ m : Nat, (a + b) / 2 = m := ⟨_, rfl⟩
      have hm1 : a ≤ m := by omega
      have hm2 : m < b := by omega
      have e1 : ((a : Int) + (b : Int)) / 2 = (m : Int) := by omega
      have e2 : Int.tdiv ((a : Int) + (b : Int)) 2 = (m : Int) := by rw [Int.tdiv_eq_ediv_of_nonneg (by omega)]; exact e1
      have hsum : (a : Int) + (b : Int) ≤ 200000 := by omega
      have HQ := Lib.hid (HP.out m · (by omega) ·)
      obtain ⟨B, hB⟩ : ∃ B, p m = B := ⟨_, rfl⟩
      rw [hB] at HQ
      have HBB := Lib.hid hB
      have hm3 : (m : Int) ≤ 100000 := by omega
      clear hB hm
      cases B with
      | true =>
        go_wp2_with fail
        (with_reducible refine (HQ.out _ HBR.out).mono ?_)
        rintro e w2 ⟨rfl, b2⟩
        have B2 := Lib.hid (Bc (B := w.heap.size) (a := w) HBR.out b2 (by have := HBR.out.size; omega))
        clear b2
        go_wp2_with fail
        go_roundw
        case rel => exact ⟨a, m, rfl, rfl, hm1, by omega, HA.out, fun i h1 h2 => HM.out m i h1 h2 HBB.out, B2.out⟩
        case measure => simp [intOf] <;> omega
      | false =>
        go_wp2_with fail
        (with_reducible refine (HQ.out _ HBR.out).mono ?_)
        rintro e w2 ⟨rfl, b2⟩
        have B2 := Lib.hid (Bc (B := w.heap.size) (a := w) HBR.out b2 (by have := HBR.out.size; omega))
        clear b2
        have HF := Lib.hid (show ∀ i, i < m + 1 → p i = false from fun i hi => by
          cases hq : p i with
          | false => rfl
          | true =>
            have := HM.out i m (by omega) (by omega) hq
            rw [HBB.out] at this
            exact this.symm)
        go_wp2_with fail
        go_roundw
        case rel => exact ⟨m + 1, b, by go_num, rfl, by omega, hbn, HF.out, HB.out, B2.out⟩
        case measure => simp [intOf] <;> omega
    · obtain rfl : a = b := by omega
      have i2 : ¬ (a : Int) < (a : Int) := by omega
      go_wp2_with fail
      go_ret
      exact ⟨a, rfl, hbn, HA.out, HB.out, HBR.out⟩

theorem PairsR.cells {w : World} {a : Option Addr} {n c : Nat} {l : List (Int × Int)} (h : PairsR w (.slice a n c) l) {i : Nat} {p : Int × Int} (hi : l[i]? = some p) :
    ∃ b o, a = some ⟨b, o, none⟩ ∧ b < w.heap.size ∧ w.cell? ⟨b, o + i * 2, none⟩ = some (.int .i64 p.1) ∧ w.cell? ⟨b, o + i * 2 + 1, none⟩ = some (.int .i64 p.2) := by
  obtain ⟨_, _, e, _, _, _, g⟩ := h
  injection e with e1 e2 e3
  subst e1
  exact g i p hi

set_option maxRecDepth 100000 in
set_option maxHeartbeats 4000000 in
theorem placeIn_any (A B : Nat) (a : Option Addr) (n c : Nat) (l : List (Int × Int)) (p q : Int) (i : Nat) (x : Int × Int) (w : World) (h : PairsR w (.slice a n c) l) (hn : l.length = n) (hx : l[i]? = some x) (h1 : scoreB x = true) (h2 : scoreB (p, q) = true)
    (hA : w.cell? ⟨A, 0, none⟩ = some (.slice a n c)) (hB0 : w.cell? ⟨B, 0, none⟩ = some (.int .i64 p)) (hB1 : w.cell? ⟨B, 1, none⟩ = some (.int .i64 q)) :
    Calls Try.prog 147 #[.int .i64 i, .pointer (some ⟨A, 0, none⟩), .pointer (some ⟨B, 0, none⟩)] w fun e w' => e = .returned (.bool (decide (0 ≤ oddI x (p, q)))) ∧ Below w.heap.size w w' := by
  obtain ⟨b, o, rfl, hb, c0, c1⟩ := h.cells hx
  obtain ⟨r, s⟩ := x
  have hil : i < n := by rw [← hn]; exact (List.getElem?_eq_some_iff.1 hx).1
  have HO := Lib.hid (fun W => bodd_any r s p q W h1 h2)
  have i1 : (0 : Int) ≤ (i : Int) := by omega
  have i2 : (i : Int) < (n : Int) := by omega
  obtain ⟨R, hR⟩ : ∃ R, oddI (r, s) (p, q) = R := ⟨_, rfl⟩
  rw [hR] at HO ⊢
  dsimp only at c0 c1
  have hlA := World.block_lt_of_cell? _ _ hA
  have hlB := World.block_lt_of_cell? _ _ hB0
  dsimp only at hlA hlB
  clear h hx h1 h2 hR hn
  go_enter Try.func147, Try.ntmps147
  go_wp2_with fail
  refine wp_region_held_drew (S := fun w' => w'.cell? ⟨A, 0, none⟩ = some (.slice (some ⟨b, o, none⟩) n c) ∧ w'.cell? ⟨b, o + i * 2, none⟩ = some (.int .i64 r) ∧ w'.cell? ⟨b, o + i * 2 + 1, none⟩ = some (.int .i64 s) ∧ w'.cell? ⟨B, 0, none⟩ = some (.int .i64 p) ∧ w'.cell? ⟨B, 1, none⟩ = some (.int .i64 q)) (by kernel_rfl) ?_ (fun hHeld => ?_); (focus (first | with_reducible exact True.intro | ((try dsimp only); and_intros <;> first | (go_simp; done) | (go_keep; done)))); (refine lexTk 0 (v := ?_) rfl hHeld ?_ (by kernel_rfl) (fun _ _ _ h => h) ?_ ?_; rotate_left 2; (focus rfl); (focus (intro w hSw; (try dsimp only at hSw); first | (go_simp; done) | (go_simp; with_reducible rfl)))); (try simp only [Act.put, List.setIfInBounds_toArray, List.set_cons_zero, List.set_cons_succ]); (refine lexTk 1 (v := ?_) rfl hHeld ?_ (by kernel_rfl) (fun _ _ _ h => h) ?_ ?_; rotate_left 2; (focus rfl); (focus (intro w hSw; (try dsimp only at hSw); first | (go_simp; done) | (go_simp; with_reducible rfl)))); (try simp only [Act.put, List.setIfInBounds_toArray, List.set_cons_zero, List.set_cons_succ]); (refine lexTk 2 (v := ?_) rfl hHeld ?_ (by kernel_rfl) (fun _ _ _ h => h) ?_ ?_; rotate_left 2; (focus rfl); (focus (intro w hSw; (try dsimp only at hSw); first | (go_simp; done) | (go_simp; with_reducible rfl)))); (try simp only [Act.put, List.setIfInBounds_toArray, List.set_cons_zero, List.set_cons_succ]); (refine lexTk 3 (v := ?_) rfl hHeld ?_ (by kernel_rfl) (fun _ _ _ h => h) ?_ ?_; rotate_left 2; (focus rfl); (focus (intro w hSw; (try dsimp only at hSw); first | (go_simp; done) | (go_simp; with_reducible rfl)))); (try simp only [Act.put, List.setIfInBounds_toArray, List.set_cons_zero, List.set_cons_succ]); (refine lexTk 4 (v := ?_) rfl hHeld ?_ (by kernel_rfl) (fun _ _ _ h => h) ?_ ?_; rotate_left 2; (focus rfl); (focus (intro w hSw; (try dsimp only at hSw); first | (go_simp; done) | (go_simp; with_reducible rfl)))); (try simp only [Act.put, List.setIfInBounds_toArray, List.set_cons_zero, List.set_cons_succ]); refine lexHv 5 rfl ?_ (by kernel_rfl); (intro K hK); (go_simp; go_at_call 84; (with_reducible refine (HO.out _).mono ?_); rintro e w1 ⟨rfl, b1⟩; have s1 : w.heap.size ≤ w1.heap.size := sz b1; have B1 := Lib.hid (Bc (B := w.heap.size) (a := w) (by (repeat (first | with_reducible exact Below.refl _ _ | with_reducible refine Bs ?_ | with_reducible refine Ba ?_ | with_reducible refine Bd ?_ | with_reducible refine Bn ?_))) b1); have c1_0 : w1.cell? ⟨A, 0, none⟩ = some (.slice (some ⟨b, o, none⟩) n c) := kc b1 (by go_simp) (by first | omega | (simp; done) | (simp; omega)); have c1_1 : w1.cell? ⟨b, o + i * 2, none⟩ = some (.int .i64 r) := kc b1 (by go_simp) (by first | omega | (simp; done) | (simp; omega)); have c1_2 : w1.cell? ⟨b, o + i * 2 + 1, none⟩ = some (.int .i64 s) := kc b1 (by go_simp) (by first | omega | (simp; done) | (simp; omega)); obtain ⟨c1_3, c1_4⟩ := k2 (B) (.int .i64 p) (.int .i64 q) b1 (by and_intros <;> go_simp); obtain ⟨l1_0, n1_0, m1_0⟩ := lnm (show A < w1.heap.size by omega); obtain ⟨l1_1, n1_1, m1_1⟩ := lnm (show b < w1.heap.size by omega); obtain ⟨l1_2, n1_2, m1_2⟩ := lnm (show B < w1.heap.size by omega); clear b1; (try go_wp2_with fail)); refine hK.out _ _ ?_ ?_; (focus (first | with_reducible exact True.intro | ((try dsimp only); and_intros <;> first | (go_simp; done) | (go_keep; done)))); (clear hHeld hK K); (intro hHeld); (try simp only [Act.put, List.setIfInBounds_toArray, List.set_cons_zero, List.set_cons_succ]); (refine lexTk 6 (v := ?_) rfl hHeld ?_ (by kernel_rfl) (fun _ _ _ h => h) ?_ ?_; rotate_left 2; (focus rfl); (focus (intro w hSw; (try dsimp only at hSw); first | (go_simp; done) | (go_simp; with_reducible rfl)))); (try simp only [Act.put, List.setIfInBounds_toArray, List.set_cons_zero, List.set_cons_succ]); (refine lexTk 7 (v := ?_) rfl hHeld ?_ (by kernel_rfl) (fun _ _ _ h => h) ?_ ?_; rotate_left 2; (focus rfl); (focus (intro w hSw; (try dsimp only at hSw); first | (go_simp; done) | (go_simp; with_reducible rfl)))); (try simp only [Act.put, List.setIfInBounds_toArray, List.set_cons_zero, List.set_cons_succ]); refine wpAnyH_done (by kernel_rfl) ?_ _
  go_wp2_with fail
  go_ret
  exact ⟨rfl, B1.out⟩

/-- Behind a score that is not less odd than s there is none that is less odd. -/
theorem odd_behind {a b s : Int × Int} (ha : scoreB a = true) (hb : scoreB b = true) (hs : scoreB s = true) (hab : oddI a b ≤ 0) (h : 0 ≤ oddI a s) : 0 ≤ oddI b s := by
  rcases Int.lt_or_le (oddI b s) 0 with hlt | hge
  · exfalso
    have h1 := odd_trans ha hb hs hab (by omega)
    have h2 : oddI a s = 0 := by omega
    have h3 := odd_zero ha hs h2
    subst h3
    have h4 := odd_turn b a
    omega
  · exact hge

def geB (l : List (Int × Int)) (s : Int × Int) (i : Nat) : Bool := match l[i]? with | some x => decide (0 ≤ oddI x s) | none => true

theorem geB_some {l : List (Int × Int)} {s : Int × Int} {i : Nat} {x : Int × Int} (h : l[i]? = some x) : geB l s i = decide (0 ≤ oddI x s) := by
  unfold geB
  rw [h]

theorem geB_mono {l : List (Int × Int)} {s : Int × Int} (ha : allS l = true) (hs : scoreB s = true) (hl : SortedS l) : ∀ i j, i ≤ j → j < l.length → geB l s i = true → geB l s j = true := fun i j hij hj h => by
  obtain ⟨x, hx⟩ := getElem?_ex (l := l) (k := i) (by omega)
  obtain ⟨y, hy⟩ := getElem?_ex (l := l) (k := j) hj
  rw [geB_some hx, decide_eq_true_eq] at h
  rw [geB_some hy, decide_eq_true_eq]
  rcases Nat.lt_or_ge i j with hlt | hge
  · refine odd_behind (allS_mem ha (List.mem_of_getElem? hx)) (allS_mem ha (List.mem_of_getElem? hy)) hs ?_ h
    have := List.pairwise_iff_getElem.1 hl i j (by omega) hj hlt
    rw [List.getElem?_eq_getElem (by omega)] at hx
    rw [List.getElem?_eq_getElem hj] at hy
    injection hx with hx
    injection hy with hy
    rwa [hx, hy] at this
  · obtain rfl : i = j := by omega
    rw [hx] at hy
    injection hy with hy
    subst hy
    exact h

set_option maxRecDepth 100000 in
set_option maxHeartbeats 4000000 in
theorem place_any (v : Value) (l : List (Int × Int)) (p q : Int) (w : World) (h : PairsR w v l) (ha : allS l = true) (hs : scoreB (p, q) = true) (hl : SortedS l) (hn : l.length ≤ 100000) :
    Calls Try.prog 81 #[v, .agg #[.int .i64 p, .int .i64 q]] w fun e w' => ∃ r : Nat, e = .returned (.int .i64 r) ∧ r ≤ l.length ∧ (∀ i, i < r → geB l (p, q) i = false) ∧ (∀ i, r ≤ i → i < l.length → geB l (p, q) i = true) ∧ Below w.heap.size w w' := by
  have HR := Lib.hid h
  obtain ⟨a, c, rfl⟩ := h.shape
  have HM := Lib.hid (geB_mono ha hs hl)
  have HI := Lib.hid (fun (i : Nat) W (hi : i < l.length) (hW : PairsR W (.slice a l.length c) l) h1 h2 h3 => by
    obtain ⟨x, hx⟩ := getElem?_ex (l := l) (k := i) hi
    have := placeIn_any w.heap.size (w.heap.size + 1) a l.length c l p q i x W hW rfl hx (allS_mem ha (List.mem_of_getElem? hx)) hs h1 h2 h3
    rw [← geB_some hx] at this
    exact this)
  clear h ha hs hl
  obtain ⟨n, hln⟩ : ∃ n, l.length = n := ⟨_, rfl⟩
  rw [hln] at HR HM HI hn ⊢
  clear hln
  go_enter Try.func81, Try.ntmps81
  go_wp2_with fail
  refine (halves_any n 147 #[.pointer (some ⟨w.heap.size, 0, none⟩), .pointer (some ⟨w.heap.size + 1, 0, none⟩)] (geB l (p, q)) _ (fun _ _ => rfl) hn ?_ HM.out).mono ?_
  · intro i W hi hW
    have hz := hW.size
    exact HI.out i W hi (HR.out.below (below_tr (by (repeat (first | with_reducible exact Below.refl _ _ | with_reducible refine Bs ?_ | with_reducible refine Ba ?_ | with_reducible refine Bd ?_ | with_reducible refine Bn ?_))) (hW.mono (by simp; omega)))) (kc hW (by go_simp) (by simp; omega)) (kc hW (by go_simp) (by simp)) (kc hW (by go_simp) (by simp))
  · rintro e w1 ⟨r, rfl, r1, r2, r3, b1⟩
    have R2 := Lib.hid r2
    have R3 := Lib.hid r3
    have B1 := Lib.hid (Bc (B := w.heap.size) (a := w) (by (repeat (first | with_reducible exact Below.refl _ _ | with_reducible refine Bs ?_ | with_reducible refine Ba ?_ | with_reducible refine Bd ?_ | with_reducible refine Bn ?_))) b1)
    clear r2 r3 b1
    go_wp2_with fail
    go_ret
    exact ⟨r, rfl, r1, R2.out, R3.out, B1.out⟩
end Go.Proofs.Ytjmjnkilgoelbaa

namespace Go.Proofs.Ytjmjnkilgoelbaa
open Go.RowKit

theorem own_at {w w' : World} {base e size n : Nat} {v : Value} {xs : List Value} (h : w.ownsRow base e size v n xs) (hk : ∀ g, v.ownBlock = some g → w'.heap[g]? = w.heap[g]?) : w'.ownsRow base e size v n xs := by
  refine ⟨h.1, ?_⟩
  rcases h.2 with h1 | ⟨g, cap, cur, rfl, h2, h3, h4⟩
  · exact .inl h1
  · exact .inr ⟨g, cap, cur, rfl, h2, (hk g rfl).trans h3, h4⟩

theorem own_lt {w : World} {base e size n : Nat} {v : Value} {xs : List Value} (h : w.ownsRow base e size v n xs) {g : Nat} (hg : v.ownBlock = some g) : g < w.heap.size := by
  rcases h.2 with ⟨rfl, _⟩ | ⟨g', cap, cur, rfl, _, h3, _⟩
  · cases hg
  · injection hg with hg
    subst hg
    exact (Array.getElem?_eq_some_iff.1 h3).1

/-- The blocks of a bag's rows. -/
def blks (v : Value) (vs : List Value) : List Nat := (v :: vs).filterMap Value.ownBlock

/-- A bag lies at P: its rows are v (of the rows vs). -/
structure BagAt (w : World) (P : Nat) (v : Value) (vs : List Value) (bs : List (List (Int × Int))) (m : Nat) : Prop where
  lt : P < w.heap.size
  c0 : w.cell? ⟨P, 0, none⟩ = some v
  c1 : w.cell? ⟨P, 1, none⟩ = some (.int .i64 m)
  f0 : w.frozen? ⟨P, 0, none⟩ = false
  f1 : w.frozen? ⟨P, 1, none⟩ = false
  row : w.ownsRow 0 28 1 v bs.length vs
  rows : ∀ (i : Nat) (u : Value) (l : List (Int × Int)), vs[i]? = some u → bs[i]? = some l → w.ownsRow 0 24 2 u l.length (l.flatMap pairF)
  apart : (P :: blks v vs).Nodup

theorem BagAt.len {w : World} {P : Nat} {v : Value} {vs : List Value} {bs : List (List (Int × Int))} {m : Nat} (h : BagAt w P v vs bs m) : vs.length = bs.length := by
  have := h.row.1
  omega

theorem BagAt.foot {w : World} {P : Nat} {v : Value} {vs : List Value} {bs : List (List (Int × Int))} {m : Nat} (h : BagAt w P v vs bs m) {b : Nat} (hb : b ∈ P :: blks v vs) : b < w.heap.size := by
  rcases List.mem_cons.1 hb with rfl | hb
  · exact h.lt
  · obtain ⟨u, hu, hub⟩ := List.mem_filterMap.1 hb
    rcases List.mem_cons.1 hu with rfl | hu
    · exact own_lt h.row hub
    · obtain ⟨i, hi⟩ := List.getElem?_of_mem hu
      obtain ⟨l, hl⟩ := getElem?_ex (l := bs) (k := i) (by rw [← h.len]; exact (List.getElem?_eq_some_iff.1 hi).1)
      exact own_lt (h.rows i u l hi hl) hub

theorem BagAt.keep {w w' : World} {P : Nat} {v : Value} {vs : List Value} {bs : List (List (Int × Int))} {m : Nat} (h : BagAt w P v vs bs m) (hz : w.heap.size ≤ w'.heap.size) (hk : ∀ b, b ∈ P :: blks v vs → w'.heap[b]? = w.heap[b]?) : BagAt w' P v vs bs m := by
  have hP := hk P (by simp)
  have hc : ∀ o, w'.cell? ⟨P, o, none⟩ = w.cell? ⟨P, o, none⟩ := fun o => World.cell?_of_block (a := ⟨P, o, none⟩) hP
  have hf : ∀ o, w'.frozen? ⟨P, o, none⟩ = w.frozen? ⟨P, o, none⟩ := fun o => World.frozen?_of_block (a := ⟨P, o, none⟩) hP
  refine ⟨Nat.lt_of_lt_of_le h.lt hz, (hc 0).trans h.c0, (hc 1).trans h.c1, (hf 0).trans h.f0, (hf 1).trans h.f1, own_at h.row fun g hg => hk g ?_, fun i u l hu hl => own_at (h.rows i u l hu hl) fun g hg => hk g ?_, h.apart⟩
  · exact List.mem_cons.2 (.inr (List.mem_filterMap.2 ⟨v, by simp, hg⟩))
  · exact List.mem_cons.2 (.inr (List.mem_filterMap.2 ⟨u, List.mem_cons.2 (.inr (List.mem_of_getElem? hu)), hg⟩))

theorem BagAt.below {w w' : World} {P : Nat} {v : Value} {vs : List Value} {bs : List (List (Int × Int))} {m : Nat} (h : BagAt w P v vs bs m) (B : Below w.heap.size w w') : BagAt w' P v vs bs m :=
  h.keep B.size fun b hb => B.block b (h.foot hb)

/-- The scores of a bag are in their order, no row is empty or too long. -/
structure BagP (bs : List (List (Int × Int))) : Prop where
  some : ∀ l, l ∈ bs → l ≠ []
  few : ∀ l, l ∈ bs → l.length ≤ 32
  sort : SortedS bs.flatten
  all : allS bs.flatten = true
  most : bs.flatten.length ≤ 4096

theorem BagP.row {bs : List (List (Int × Int))} (h : BagP bs) {l : List (Int × Int)} (hl : l ∈ bs) : SortedS l ∧ allS l = true := by
  constructor
  · exact (List.pairwise_flatten.1 h.sort).1 l hl
  · rw [allS, List.all_eq_true]
    intro x hx
    exact allS_mem h.all (List.mem_flatten.2 ⟨l, hl, hx⟩)

/-- Is the last score of a row not less odd? -/
def lastGe (bs : List (List (Int × Int))) (s : Int × Int) (i : Nat) : Bool := match bs[i]? with | some l => geB l s (l.length - 1) | none => true

theorem lastGe_some {bs : List (List (Int × Int))} {s : Int × Int} {i : Nat} {l : List (Int × Int)} (h : bs[i]? = some l) : lastGe bs s i = geB l s (l.length - 1) := by
  unfold lastGe
  rw [h]

theorem lastGe_mono {bs : List (List (Int × Int))} {s : Int × Int} (h : BagP bs) (hs : scoreB s = true) : ∀ i j, i ≤ j → j < bs.length → lastGe bs s i = true → lastGe bs s j = true := fun i j hij hj hi => by
  rcases Nat.lt_or_ge i j with hlt | hge
  · obtain ⟨a, ha⟩ := getElem?_ex (l := bs) (k := i) (by omega)
    obtain ⟨b, hb⟩ := getElem?_ex (l := bs) (k := j) hj
    have ha0 := h.some a (List.mem_of_getElem? ha)
    have hb0 := h.some b (List.mem_of_getElem? hb)
    have hal : a.length - 1 < a.length := by have := List.length_pos_iff.2 ha0; omega
    have hbl : b.length - 1 < b.length := by have := List.length_pos_iff.2 hb0; omega
    obtain ⟨x, hx⟩ := getElem?_ex (l := a) (k := a.length - 1) hal
    obtain ⟨y, hy⟩ := getElem?_ex (l := b) (k := b.length - 1) hbl
    rw [lastGe_some ha, geB_some hx, decide_eq_true_eq] at hi
    rw [lastGe_some hb, geB_some hy, decide_eq_true_eq]
    refine odd_behind (allS_mem (h.row (List.mem_of_getElem? ha)).2 (List.mem_of_getElem? hx)) (allS_mem (h.row (List.mem_of_getElem? hb)).2 (List.mem_of_getElem? hy)) hs ?_ hi
    have hp := List.pairwise_iff_getElem.1 (List.pairwise_flatten.1 h.sort).2 i j (by omega) hj hlt
    rw [List.getElem?_eq_getElem (by omega)] at ha
    rw [List.getElem?_eq_getElem hj] at hb
    injection ha with ha
    injection hb with hb
    rw [ha, hb] at hp
    exact hp x (List.mem_of_getElem? hx) y (List.mem_of_getElem? hy)
  · obtain rfl : i = j := by omega
    exact hi

set_option maxRecDepth 100000 in
set_option maxHeartbeats 4000000 in
theorem blockIn_any (A B P g m c i b n cc : Nat) (r s p q : Int) (w : World) (hi : i < m) (hn : 0 < n) (hn2 : n ≤ 100000) (h1 : scoreB (r, s) = true) (h2 : scoreB (p, q) = true)
    (hA : w.cell? ⟨A, 0, none⟩ = some (.pointer (some ⟨P, 0, none⟩))) (hP : w.cell? ⟨P, 0, none⟩ = some (.slice (some ⟨g, 0, none⟩) m c)) (hg : w.cell? ⟨g, i, none⟩ = some (.slice (some ⟨b, 0, none⟩) n cc))
    (hx0 : w.cell? ⟨b, (n - 1) * 2, none⟩ = some (.int .i64 r)) (hx1 : w.cell? ⟨b, (n - 1) * 2 + 1, none⟩ = some (.int .i64 s)) (hB0 : w.cell? ⟨B, 0, none⟩ = some (.int .i64 p)) (hB1 : w.cell? ⟨B, 1, none⟩ = some (.int .i64 q)) :
    Calls Try.prog 146 #[.int .i64 i, .pointer (some ⟨A, 0, none⟩), .pointer (some ⟨B, 0, none⟩)] w fun e w' => e = .returned (.bool (decide (0 ≤ oddI (r, s) (p, q)))) ∧ Below w.heap.size w w' := by
  have HO := Lib.hid (fun W => bodd_any r s p q W h1 h2)
  have i1 : (0 : Int) ≤ (i : Int) := by omega
  have i2 : (i : Int) < (m : Int) := by omega
  have n1 : (0 : Int) ≤ (n : Int) - 1 := by omega
  have n0 : (1 : Int) ≤ (n : Int) := by omega
  have n2 : (n : Int) - 1 < (n : Int) := by omega
  have n3 : ((n : Int) - 1).toNat = n - 1 := by omega
  have n4 : IntKind.i64.wrap ((n : Int) - 1) = (n : Int) - 1 := by rw [IntKind.wrap_i64]; omega
  obtain ⟨R, hR⟩ : ∃ R, oddI (r, s) (p, q) = R := ⟨_, rfl⟩
  rw [hR] at HO ⊢
  have hlb := World.block_lt_of_cell? _ _ hx0
  have hlB := World.block_lt_of_cell? _ _ hB0
  dsimp only at hlb hlB
  clear h1 h2 hR hi
  go_enter Try.func146, Try.ntmps146
  go_wp2_with fail
  refine wp_region_held_drew (S := fun w' => w'.cell? ⟨b, (n - 1) * 2, none⟩ = some (.int .i64 r) ∧ w'.cell? ⟨b, (n - 1) * 2 + 1, none⟩ = some (.int .i64 s) ∧ w'.cell? ⟨B, 0, none⟩ = some (.int .i64 p) ∧ w'.cell? ⟨B, 1, none⟩ = some (.int .i64 q)) (by kernel_rfl) ?_ (fun hHeld => ?_); (focus (first | with_reducible exact True.intro | ((try dsimp only); and_intros <;> first | (go_simp; done) | (go_keep; done)))); (refine lexTk 0 (v := ?_) rfl hHeld ?_ (by kernel_rfl) (fun _ _ _ h => h) ?_ ?_; rotate_left 2; (focus rfl); (focus (intro w hSw; (try dsimp only at hSw); first | (go_simp; done) | (go_simp; with_reducible rfl)))); (try simp only [Act.put, List.setIfInBounds_toArray, List.set_cons_zero, List.set_cons_succ]); (refine lexTk 1 (v := ?_) rfl hHeld ?_ (by kernel_rfl) (fun _ _ _ h => h) ?_ ?_; rotate_left 2; (focus rfl); (focus (intro w hSw; (try dsimp only at hSw); first | (go_simp; done) | (go_simp; with_reducible rfl)))); (try simp only [Act.put, List.setIfInBounds_toArray, List.set_cons_zero, List.set_cons_succ]); (refine lexTk 2 (v := ?_) rfl hHeld ?_ (by kernel_rfl) (fun _ _ _ h => h) ?_ ?_; rotate_left 2; (focus rfl); (focus (intro w hSw; (try dsimp only at hSw); first | (go_simp; done) | (go_simp; with_reducible rfl)))); (try simp only [Act.put, List.setIfInBounds_toArray, List.set_cons_zero, List.set_cons_succ]); (refine lexTk 3 (v := ?_) rfl hHeld ?_ (by kernel_rfl) (fun _ _ _ h => h) ?_ ?_; rotate_left 2; (focus rfl); (focus (intro w hSw; (try dsimp only at hSw); first | (go_simp; done) | (go_simp; with_reducible rfl)))); (try simp only [Act.put, List.setIfInBounds_toArray, List.set_cons_zero, List.set_cons_succ]); (refine lexTk 4 (v := ?_) rfl hHeld ?_ (by kernel_rfl) (fun _ _ _ h => h) ?_ ?_; rotate_left 2; (focus rfl); (focus (intro w hSw; (try dsimp only at hSw); first | (go_simp; done) | (go_simp; with_reducible rfl)))); (try simp only [Act.put, List.setIfInBounds_toArray, List.set_cons_zero, List.set_cons_succ]); (refine lexTk 5 (v := ?_) rfl hHeld ?_ (by kernel_rfl) (fun _ _ _ h => h) ?_ ?_; rotate_left 2; (focus rfl); (focus (intro w hSw; (try dsimp only at hSw); first | (go_simp; done) | (go_simp; with_reducible rfl)))); (try simp only [Act.put, List.setIfInBounds_toArray, List.set_cons_zero, List.set_cons_succ]); (refine lexTk 6 (v := ?_) rfl hHeld ?_ (by kernel_rfl) (fun _ _ _ h => h) ?_ ?_; rotate_left 2; (focus rfl); (focus (intro w hSw; (try dsimp only at hSw); first | (go_simp; done) | (go_simp; with_reducible rfl)))); (try simp only [Act.put, List.setIfInBounds_toArray, List.set_cons_zero, List.set_cons_succ]); refine lexHv 7 rfl ?_ (by kernel_rfl); (intro K hK); (go_simp; go_at_call 84; (with_reducible refine (HO.out _).mono ?_); rintro e w1 ⟨rfl, b1⟩; have s1 : w.heap.size ≤ w1.heap.size := sz b1; have B1 := Lib.hid (Bc (B := w.heap.size) (a := w) (by (repeat (first | with_reducible exact Below.refl _ _ | with_reducible refine Bs ?_ | with_reducible refine Ba ?_ | with_reducible refine Bd ?_ | with_reducible refine Bn ?_))) b1); have c1_0 : w1.cell? ⟨b, (n - 1) * 2, none⟩ = some (.int .i64 r) := kc b1 (by go_simp) (by first | omega | (simp; done) | (simp; omega)); have c1_1 : w1.cell? ⟨b, (n - 1) * 2 + 1, none⟩ = some (.int .i64 s) := kc b1 (by go_simp) (by first | omega | (simp; done) | (simp; omega)); obtain ⟨c1_2, c1_3⟩ := k2 (B) (.int .i64 p) (.int .i64 q) b1 (by and_intros <;> go_simp); obtain ⟨l1_0, n1_0, m1_0⟩ := lnm (show b < w1.heap.size by omega); obtain ⟨l1_1, n1_1, m1_1⟩ := lnm (show B < w1.heap.size by omega); clear b1; (try go_wp2_with fail)); refine hK.out _ _ ?_ ?_; (focus (first | with_reducible exact True.intro | ((try dsimp only); and_intros <;> first | (go_simp; done) | (go_keep; done)))); (clear hHeld hK K); (intro hHeld); (try simp only [Act.put, List.setIfInBounds_toArray, List.set_cons_zero, List.set_cons_succ]); (refine lexTk 8 (v := ?_) rfl hHeld ?_ (by kernel_rfl) (fun _ _ _ h => h) ?_ ?_; rotate_left 2; (focus rfl); (focus (intro w hSw; (try dsimp only at hSw); first | (go_simp; done) | (go_simp; with_reducible rfl)))); (try simp only [Act.put, List.setIfInBounds_toArray, List.set_cons_zero, List.set_cons_succ]); (refine lexTk 9 (v := ?_) rfl hHeld ?_ (by kernel_rfl) (fun _ _ _ h => h) ?_ ?_; rotate_left 2; (focus rfl); (focus (intro w hSw; (try dsimp only at hSw); first | (go_simp; done) | (go_simp; with_reducible rfl)))); (try simp only [Act.put, List.setIfInBounds_toArray, List.set_cons_zero, List.set_cons_succ]); refine wpAnyH_done (by kernel_rfl) ?_ _
  go_wp2_with fail
  go_ret
  exact ⟨rfl, B1.out⟩

/-- A row of a bag, as it lies. -/
theorem BagAt.at {w : World} {P : Nat} {v : Value} {vs : List Value} {bs : List (List (Int × Int))} {m : Nat} (h : BagAt w P v vs bs m) {i : Nat} {l : List (Int × Int)} (hl : bs[i]? = some l) (h0 : l ≠ []) :
    ∃ g c b cc, v = .slice (some ⟨g, 0, none⟩) bs.length c ∧ bs.length ≤ c ∧ w.cell? ⟨g, i, none⟩ = some (.slice (some ⟨b, 0, none⟩) l.length cc) ∧ vs[i]? = some (.slice (some ⟨b, 0, none⟩) l.length cc) ∧ w.ownsRow 0 24 2 (.slice (some ⟨b, 0, none⟩) l.length cc) l.length (l.flatMap pairF) ∧ l.length ≤ cc ∧ cc ≤ maxLen := by
  have hib := (List.getElem?_eq_some_iff.1 hl).1
  obtain ⟨u, hu⟩ := getElem?_ex (l := vs) (k := i) (by rw [h.len]; exact hib)
  have hr := h.rows i u l hu hl
  have hpos := List.length_pos_iff.2 h0
  rcases hr.2 with ⟨_, h1⟩ | ⟨b, cc, cur, rfl, _, _, k1, k2, _⟩
  · omega
  · rcases h.row.2 with ⟨_, h1⟩ | ⟨g, c, cur', rfl, h2, h3, h4, h5, h6, h7⟩
    · omega
    · refine ⟨g, c, b, cc, rfl, h4, ?_, hu, hr, k1, k2⟩
      have := World.ownsRow.cellAt (w := w) (base := 0) (e := 28) (size := 1) (g := g) (n := bs.length) (cap := c) (xs := vs) ⟨h.row.1, .inr ⟨g, c, cur', rfl, h2, h3, h4, h5, h6, h7⟩⟩ i (by omega)
      rw [this, hu]

theorem own_pair {w : World} {b n c : Nat} {l : List (Int × Int)} (h : w.ownsRow 0 24 2 (.slice (some ⟨b, 0, none⟩) n c) n (l.flatMap pairF)) {i : Nat} {x : Int × Int} (hx : l[i]? = some x) (hi : i < n) :
    w.cell? ⟨b, i * 2, none⟩ = some (.int .i64 x.1) ∧ w.cell? ⟨b, i * 2 + 1, none⟩ = some (.int .i64 x.2) := by
  obtain ⟨e1, e2⟩ := pairF_at l i x hx
  exact ⟨(World.ownsRow.cellAt h (i * 2) (by omega)).trans e1, (World.ownsRow.cellAt h (i * 2 + 1) (by omega)).trans e2⟩

theorem blockAt_any (P : Nat) (v : Value) (vs : List Value) (bs : List (List (Int × Int))) (m : Nat) (p q : Int) (i A B : Nat) (W : World) (hW : BagAt W P v vs bs m) (hp : BagP bs) (hs : scoreB (p, q) = true) (hi : i < bs.length)
    (hA : W.cell? ⟨A, 0, none⟩ = some (.pointer (some ⟨P, 0, none⟩))) (hB0 : W.cell? ⟨B, 0, none⟩ = some (.int .i64 p)) (hB1 : W.cell? ⟨B, 1, none⟩ = some (.int .i64 q)) :
    Calls Try.prog 146 #[.int .i64 i, .pointer (some ⟨A, 0, none⟩), .pointer (some ⟨B, 0, none⟩)] W fun e w' => e = .returned (.bool (lastGe bs (p, q) i)) ∧ Below W.heap.size W w' := by
  obtain ⟨l, hl⟩ := getElem?_ex (l := bs) (k := i) hi
  have hm := List.mem_of_getElem? hl
  have hl0 := hp.some l hm
  have hlp := List.length_pos_iff.2 hl0
  obtain ⟨g, c', b, cc, rfl, _, hg, _, hr, _, _⟩ := hW.at hl hl0
  obtain ⟨⟨r, s⟩, hx⟩ := getElem?_ex (l := l) (k := l.length - 1) (by omega)
  obtain ⟨x0, x1⟩ := own_pair hr hx (by omega)
  have := blockIn_any A B P g bs.length c' i b l.length cc r s p q W hi hlp (by have := hp.few l hm; omega) (allS_mem (hp.row hm).2 (List.mem_of_getElem? hx)) hs hA hW.c0 hg x0 x1 hB0 hB1
  rw [lastGe_some hl, geB_some hx]
  exact this

set_option maxRecDepth 100000 in
set_option maxHeartbeats 4000000 in
theorem block_any (P : Nat) (v : Value) (vs : List Value) (bs : List (List (Int × Int))) (m : Nat) (p q : Int) (w : World) (h : BagAt w P v vs bs m) (hp : BagP bs) (hs : scoreB (p, q) = true) :
    Calls Try.prog 80 #[.pointer (some ⟨P, 0, none⟩), .agg #[.int .i64 p, .int .i64 q]] w fun e w' => ∃ r : Nat, e = .returned (.int .i64 r) ∧ r ≤ bs.length ∧ (∀ i, i < r → lastGe bs (p, q) i = false) ∧ (∀ i, r ≤ i → i < bs.length → lastGe bs (p, q) i = true) ∧ Below w.heap.size w w' := by
  have HB := Lib.hid h
  have hlt := h.lt
  have c0 := h.c0
  have hn : bs.length ≤ 100000 := by
    have h1 : bs.length ≤ bs.flatten.length := by
      have : ∀ l ∈ bs, 1 ≤ l.length := fun l hl => List.length_pos_iff.2 (hp.some l hl)
      clear h HB c0 hp
      induction bs with
      | nil => simp
      | cons a l ih =>
        rw [List.flatten_cons, List.length_append, List.length_cons]
        have h2 := this a (by simp)
        have h3 := ih (fun b hb => this b (by simp [hb]))
        omega
    have := hp.most
    omega
  have hrow : ∃ a c, v = .slice a bs.length c := by
    rcases h.row.2 with ⟨rfl, h1⟩ | ⟨g, c, _, rfl, _⟩
    · exact ⟨none, 0, by rw [h1]⟩
    · exact ⟨_, _, rfl⟩
  obtain ⟨a, c, rfl⟩ := hrow
  have HM := Lib.hid (lastGe_mono hp hs)
  have HI := Lib.hid (fun (i A B : Nat) W (hi : i < bs.length) (hW : BagAt W P (.slice a bs.length c) vs bs m) hA hB0 hB1 => blockAt_any P _ vs bs m p q i A B W hW hp hs hi hA hB0 hB1)
  clear h hp hs
  obtain ⟨n, hln⟩ : ∃ n, bs.length = n := ⟨_, rfl⟩
  rw [hln] at HB HM HI hn c0 ⊢
  clear hln
  go_enter Try.func80, Try.ntmps80
  go_wp2_with fail
  refine (halves_any n 146 #[.pointer (some ⟨w.heap.size, 0, none⟩), .pointer (some ⟨w.heap.size + 1, 0, none⟩)] (lastGe bs (p, q)) _ (fun _ _ => rfl) hn ?_ HM.out).mono ?_
  · intro i W hi hW
    have hz := hW.size
    exact HI.out i _ _ W hi (HB.out.below (below_tr (by (repeat (first | with_reducible exact Below.refl _ _ | with_reducible refine Bs ?_ | with_reducible refine Ba ?_ | with_reducible refine Bd ?_ | with_reducible refine Bn ?_))) (hW.mono (by simp; omega)))) (kc hW (by go_simp) (by simp; omega)) (kc hW (by go_simp) (by simp)) (kc hW (by go_simp) (by simp))
  · rintro e w1 ⟨r, rfl, r1, r2, r3, b1⟩
    have R2 := Lib.hid r2
    have R3 := Lib.hid r3
    have B1 := Lib.hid (Bc (B := w.heap.size) (a := w) (by (repeat (first | with_reducible exact Below.refl _ _ | with_reducible refine Bs ?_ | with_reducible refine Ba ?_ | with_reducible refine Bd ?_ | with_reducible refine Bn ?_))) b1)
    clear r2 r3 b1
    go_wp2_with fail
    go_ret
    exact ⟨r, rfl, r1, R2.out, R3.out, B1.out⟩
end Go.Proofs.Ytjmjnkilgoelbaa

namespace Go.Proofs.Ytjmjnkilgoelbaa
open Go.RowKit

/-- Only blocks of F have changed, or are new. -/
structure OnlyIn (F : List Nat) (w w' : World) : Prop where
  os : w'.os = w.os
  tape : w'.tape = w.tape
  output : w'.output = w.output
  size : w.heap.size ≤ w'.heap.size
  block : ∀ b, b < w.heap.size → b ∉ F → w'.heap[b]? = w.heap[b]?

theorem OnlyIn.refl (F : List Nat) (w : World) : OnlyIn F w w := ⟨rfl, rfl, rfl, Nat.le_refl _, fun _ _ _ => rfl⟩

theorem OnlyIn.trans {F F' : List Nat} {w w1 w2 : World} (h : OnlyIn F w w1) (k : OnlyIn F' w1 w2) (hF : ∀ b, b ∈ F' → b ∈ F ∨ w.heap.size ≤ b) : OnlyIn F w w2 :=
  ⟨k.os.trans h.os, k.tape.trans h.tape, k.output.trans h.output, Nat.le_trans h.size k.size, fun b hb hn =>
    (k.block b (Nat.lt_of_lt_of_le hb h.size) fun hbF => by rcases hF b hbF with h1 | h1; exact hn h1; omega).trans (h.block b hb hn)⟩

theorem OnlyIn.ofBelow {F : List Nat} {w w' : World} (h : Below w.heap.size w w') : OnlyIn F w w' := ⟨h.os, h.tape, h.output, h.size, fun b hb _ => h.block b hb⟩

theorem OnlyIn.ofGrown {F : List Nat} {w w' : World} {r : Option Nat} (h : w.grownBy w' r) (hr : ∀ b, r = some b → b ∈ F) : OnlyIn F w w' :=
  ⟨h.os, h.tape, h.output, h.size, fun b hb hn => h.block b hb fun e => hn (hr b e.symm)⟩

theorem OnlyIn.set {F : List Nat} {w : World} (b o : Nat) (u : Value) (hb : b ∈ F) : OnlyIn F w (w.setCell ⟨b, o, none⟩ u) :=
  ⟨rfl, rfl, rfl, by simp, fun c _ hn => Below.heap_setCell _ _ _ _ (fun e => hn (by rw [e]; exact hb))⟩

theorem OnlyIn.below {F : List Nat} {w w' : World} {B : Nat} (h : OnlyIn F w w') (hF : ∀ b, b ∈ F → B ≤ b) (hB : B ≤ w.heap.size) : Below B w w' :=
  ⟨h.os, h.tape, h.output, h.size, fun b hb => h.block b (by omega) fun hbF => by have := hF b hbF; omega⟩

theorem OnlyIn.mono {F F' : List Nat} {w w' : World} (h : OnlyIn F w w') (hF : ∀ b, b ∈ F → b ∈ F') : OnlyIn F' w w' := ⟨h.os, h.tape, h.output, h.size, fun b hb hn => h.block b hb fun e => hn (hF b e)⟩

theorem blks_perm {v : Value} {vs vs' : List Value} (h : vs.Perm vs') : (blks v vs).Perm (blks v vs') := (h.cons v).filterMap _

theorem blks_cons {v u : Value} {vs : List Value} {b : Nat} (h : u.ownBlock = some b) : (blks v (u :: vs)).Perm (b :: blks v vs) := by
  unfold blks
  refine ((List.Perm.swap u v vs).filterMap Value.ownBlock).trans ?_
  rw [List.filterMap_cons_some h]

theorem set_perm {α : Type} : ∀ {l : List α} {i : Nat} {x : α} (y : α), l[i]? = some x → (l.set i y).Perm (y :: l.eraseIdx i) ∧ l.Perm (x :: l.eraseIdx i)
  | [], i, x, y, h => by simp at h
  | a :: l, 0, x, y, h => by
    obtain rfl : a = x := by simpa using h
    exact ⟨List.Perm.refl _, List.Perm.refl _⟩
  | a :: l, i + 1, x, y, h => by
    obtain ⟨h1, h2⟩ := set_perm (l := l) (i := i) (x := x) y (by simpa using h)
    rw [List.set_cons_succ, List.eraseIdx_cons_succ]
    exact ⟨(h1.cons a).trans (List.Perm.swap _ _ _), (h2.cons a).trans (List.Perm.swap _ _ _)⟩

theorem ins_perm {α : Type} (l : List α) (k : Nat) (x : α) : (l.take k ++ [x] ++ l.drop k).Perm (x :: l) := by
  rw [List.append_assoc, List.singleton_append]
  refine List.perm_middle.trans ?_
  rw [List.take_append_drop]

/-- The block of a row, and those of the others. -/
theorem blks_split {v u : Value} {vs : List Value} {i b : Nat} (h : vs[i]? = some u) (hb : u.ownBlock = some b) : (blks v vs).Perm (b :: blks v (vs.eraseIdx i)) :=
  (blks_perm (set_perm u h).2).trans (blks_cons hb)

theorem blks_set {v u : Value} {vs : List Value} {i : Nat} {u' : Value} {b' : Nat} (h : vs[i]? = some u) (hb' : u'.ownBlock = some b') : (blks v (vs.set i u')).Perm (b' :: blks v (vs.eraseIdx i)) :=
  (blks_perm (set_perm u' h).1).trans (blks_cons hb')

theorem nodup_new {P b b' : Nat} {L : List Nat} (h : (P :: b :: L).Nodup) (hb : b' = b ∨ (b' ≠ P ∧ b' ∉ L)) : (P :: b' :: L).Nodup := by
  rcases hb with rfl | ⟨h1, h2⟩
  · exact h
  · simp only [List.nodup_cons, List.mem_cons, not_or] at h ⊢
    exact ⟨⟨Ne.symm h1, h.1.2⟩, h2, h.2.2⟩

/-- The number of scores is written. -/
theorem BagAt.many {w : World} {P : Nat} {v : Value} {vs : List Value} {bs : List (List (Int × Int))} {m : Nat} (h : BagAt w P v vs bs m) (m' : Nat) : BagAt (w.setCell ⟨P, 1, none⟩ (.int .i64 m')) P v vs bs m' := by
  have hn := (List.nodup_cons.1 h.apart).1
  have hk : ∀ b, b ∈ blks v vs → (w.setCell ⟨P, 1, none⟩ (.int .i64 (m' : Int))).heap[b]? = w.heap[b]? := fun b hb => Below.heap_setCell _ _ _ _ (fun e => hn (by have e' : b = P := e; rw [← e']; exact hb))
  refine ⟨by simpa using h.lt, ?_, ?_, ?_, ?_, own_at h.row fun g hg => hk g ?_, fun i u l hu hl => own_at (h.rows i u l hu hl) fun g hg => hk g ?_, h.apart⟩
  · rw [World.cell?_setCell_other _ _ _ _ (by simp)]; exact h.c0
  · have := h.c1
    simp [World.cell?_setCell_same, this]
  · rw [World.frozen?_setCell]; exact h.f0
  · rw [World.frozen?_setCell]; exact h.f1
  · exact List.mem_filterMap.2 ⟨v, by simp, hg⟩
  · exact List.mem_filterMap.2 ⟨u, List.mem_cons.2 (.inr (List.mem_of_getElem? hu)), hg⟩

theorem mem_blks {v u : Value} {vs : List Value} {i g : Nat} (h : vs[i]? = some u) (hg : u.ownBlock = some g) : g ∈ blks v vs := List.mem_filterMap.2 ⟨u, List.mem_cons.2 (.inr (List.mem_of_getElem? h)), hg⟩

theorem mem_blks0 {v : Value} {vs : List Value} {g : Nat} (hg : v.ownBlock = some g) : g ∈ blks v vs := List.mem_filterMap.2 ⟨v, by simp, hg⟩

theorem erase_other {α : Type} {l : List α} {i j : Nat} {x : α} (h : l[j]? = some x) (hne : j ≠ i) : x ∈ l.eraseIdx i := by
  rw [List.mem_iff_getElem?]
  rcases Nat.lt_or_ge j i with hlt | hge
  · exact ⟨j, by rw [List.getElem?_eraseIdx, if_pos hlt]; exact h⟩
  · refine ⟨j - 1, ?_⟩
    rw [List.getElem?_eraseIdx, if_neg (by omega), show j - 1 + 1 = j by omega]
    exact h

/-- A row of a bag has changed, and is stored. -/
theorem BagAt.setRow {w : World} {P : Nat} {v : Value} {vs : List Value} {bs : List (List (Int × Int))} {m : Nat} (h : BagAt w P v vs bs m) {i : Nat} {u : Value} (hu : vs[i]? = some u) {b : Nat} (hb : u.ownBlock = some b) {w1 : World} (hg : w.grownBy w1 (some b))
    {u' : Value} {l' : List (Int × Int)} {b' : Nat} (hr : w1.ownsRow 0 24 2 u' l'.length (l'.flatMap pairF)) (hb' : u'.ownBlock = some b') (hbb : b' = b ∨ w.heap.size ≤ b') {g c : Nat} (hv : v = .slice (some ⟨g, 0, none⟩) bs.length c) :
    BagAt (w1.setCell ⟨g, i, none⟩ u') P v (vs.set i u') (bs.set i l') m ∧ OnlyIn (P :: blks v vs) w (w1.setCell ⟨g, i, none⟩ u') ∧ ∀ x, x ∈ blks v (vs.set i u') → x ∈ blks v vs ∨ w.heap.size ≤ x := by
  have hbm : b ∈ blks v vs := mem_blks hu hb
  have hgm : g ∈ blks v vs := mem_blks0 (by rw [hv]; rfl)
  have hsp := blks_split (v := v) hu hb
  have hss := blks_set (v := v) hu hb'
  have hnd : (P :: b :: blks v (vs.eraseIdx i)).Nodup := (hsp.cons P).nodup_iff.1 h.apart
  have hgL : g ∈ blks v (vs.eraseIdx i) := mem_blks0 (by rw [hv]; rfl)
  have hbP : b ≠ P := fun e => (List.nodup_cons.1 hnd).1 (by rw [e]; simp)
  have hbL : b ∉ blks v (vs.eraseIdx i) := (List.nodup_cons.1 (List.nodup_cons.1 hnd).2).1
  have hgP : g ≠ P := fun e => (List.nodup_cons.1 hnd).1 (by rw [← e]; exact List.mem_cons.2 (.inr hgL))
  have hgb : g ≠ b := fun e => hbL (by rw [← e]; exact hgL)
  have hL : ∀ x, x ∈ P :: blks v (vs.eraseIdx i) → x < w.heap.size ∧ x ≠ b := fun x hx => by
    rcases List.mem_cons.1 hx with rfl | hx
    · exact ⟨h.lt, Ne.symm hbP⟩
    · exact ⟨h.foot (List.mem_cons.2 (.inr (hsp.mem_iff.2 (List.mem_cons.2 (.inr hx))))), fun e => hbL (by rw [← e]; exact hx)⟩
  have hb2 : b' = b ∨ (b' ≠ P ∧ b' ∉ blks v (vs.eraseIdx i)) := by
    rcases hbb with h1 | h1
    · exact .inl h1
    · exact .inr ⟨by have := h.lt; omega, fun e => by have := (hL b' (List.mem_cons.2 (.inr e))).1; omega⟩
  have hgb' : b' ≠ g := by
    rcases hbb with h1 | h1
    · rw [h1]; exact Ne.symm hgb
    · have := (hL g (List.mem_cons.2 (.inr hgL))).1; omega
  have k1 : ∀ x, x ∈ P :: blks v (vs.eraseIdx i) → w1.heap[x]? = w.heap[x]? := fun x hx => hg.block x (hL x hx).1 (by have := (hL x hx).2; simp; omega)
  have k2 : ∀ x, x ∈ P :: blks v (vs.eraseIdx i) → x ≠ g → (w1.setCell ⟨g, i, none⟩ u').heap[x]? = w.heap[x]? := fun x hx hne => (Below.heap_setCell _ _ _ _ hne).trans (k1 x hx)
  have hP := k2 P (by simp) (Ne.symm hgP)
  have hlen := h.len
  have hi : i < bs.length := by rw [← hlen]; exact (List.getElem?_eq_some_iff.1 hu).1
  refine ⟨⟨by simp; exact Nat.lt_of_lt_of_le h.lt hg.size, ?_, ?_, ?_, ?_, ?_, ?_, ?_⟩, ?_, ?_⟩
  · exact (World.cell?_of_block (a := ⟨P, 0, none⟩) hP).trans h.c0
  · exact (World.cell?_of_block (a := ⟨P, 1, none⟩) hP).trans h.c1
  · exact (World.frozen?_of_block (a := ⟨P, 0, none⟩) hP).trans h.f0
  · exact (World.frozen?_of_block (a := ⟨P, 1, none⟩) hP).trans h.f1
  · have hrow : w1.ownsRow 0 28 1 v bs.length vs := own_at h.row fun q hq => by
      rw [hv] at hq
      injection hq with hq
      subst hq
      exact k1 _ (List.mem_cons.2 (.inr hgL))
    rw [List.length_set]
    rw [hv] at hrow ⊢
    exact (World.ownsRow.stored hrow i u').1
  · intro j x l hx hl
    by_cases hj : j = i
    · subst hj
      rw [List.getElem?_set_self (by rw [hlen]; exact hi)] at hx
      rw [List.getElem?_set_self hi] at hl
      injection hx with hx
      injection hl with hl
      subst hx hl
      exact own_at hr fun q hq => by
        rw [hb'] at hq
        injection hq with hq
        subst hq
        exact Below.heap_setCell _ _ _ _ hgb'
    · rw [List.getElem?_set_ne (Ne.symm hj)] at hx hl
      exact own_at (h.rows j x l hx hl) fun q hq => by
        have hqL : q ∈ blks v (vs.eraseIdx i) := List.mem_filterMap.2 ⟨x, List.mem_cons.2 (.inr (erase_other hx hj)), hq⟩
        refine k2 q (List.mem_cons.2 (.inr hqL)) fun e => ?_
        subst e
        have hn2 := (List.nodup_cons.1 (List.nodup_cons.1 hnd).2).2
        have hnv : (q :: (vs.eraseIdx i).filterMap Value.ownBlock).Nodup := by
          have : blks v (vs.eraseIdx i) = q :: (vs.eraseIdx i).filterMap Value.ownBlock := by
            unfold blks
            rw [List.filterMap_cons_some (by rw [hv]; rfl)]
          rw [← this]; exact hn2
        exact (List.nodup_cons.1 hnv).1 (List.mem_filterMap.2 ⟨x, erase_other hx hj, hq⟩)
  · exact (hss.cons P).nodup_iff.2 (nodup_new hnd hb2)
  · exact (OnlyIn.ofGrown hg fun x hx => by injection hx with hx; subst hx; exact List.mem_cons.2 (.inr hbm)).trans (OnlyIn.set (F := P :: blks v vs) g i u' (List.mem_cons.2 (.inr hgm))) fun x hx => .inl hx
  · intro x hx
    rcases List.mem_cons.1 (hss.mem_iff.1 hx) with rfl | hx
    · rcases hbb with h1 | h1
      · exact .inl (by rw [h1]; exact hbm)
      · exact .inr h1
    · exact .inl (hsp.mem_iff.2 (List.mem_cons.2 (.inr hx)))

theorem ins_get {α : Type} {l : List α} {k : Nat} {x : α} (hk : k ≤ l.length) (j : Nat) : (l.take k ++ [x] ++ l.drop k)[j]? = if j < k then l[j]? else if j = k then some x else l[j - 1]? := by
  have ht : (l.take k).length = k := by rw [List.length_take]; omega
  by_cases h1 : j < k
  · rw [if_pos h1, List.append_assoc, List.getElem?_append_left (by omega), List.getElem?_take, if_pos h1]
  · rw [if_neg h1, List.append_assoc, List.getElem?_append_right (by omega), ht]
    by_cases h2 : j = k
    · rw [if_pos h2, h2, Nat.sub_self]; rfl
    · rw [if_neg h2, List.getElem?_append_right (by simp; omega), List.getElem?_drop]
      congr 1
      simp
      omega

/-- A row has been put into a bag's rows, and they are stored. -/
theorem BagAt.insRow {w : World} {P : Nat} {v : Value} {vs : List Value} {bs : List (List (Int × Int))} {m : Nat} (h : BagAt w P v vs bs m) {g c : Nat} (hv : v = .slice (some ⟨g, 0, none⟩) bs.length c) {u : Value} {l : List (Int × Int)} {bu : Nat} (hu : w.ownsRow 0 24 2 u l.length (l.flatMap pairF))
    (hub : u.ownBlock = some bu) (hbu : bu ∉ P :: blks v vs) {k : Nat} (hk : k ≤ bs.length) {w1 : World} (hg : w.grownBy w1 (some g)) {v' : Value} {g' : Nat} (hr : w1.ownsRow 0 28 1 v' (bs.length + 1) (vs.take k ++ [u] ++ vs.drop k)) (hv' : v'.ownBlock = some g') (hgg : g' = g ∨ w.heap.size ≤ g') :
    BagAt (w1.setCell ⟨P, 0, none⟩ v') P v' (vs.take k ++ [u] ++ vs.drop k) (bs.take k ++ [l] ++ bs.drop k) m ∧ OnlyIn (P :: blks v vs) w (w1.setCell ⟨P, 0, none⟩ v') ∧ ∀ x, x ∈ blks v' (vs.take k ++ [u] ++ vs.drop k) → x ∈ blks v vs ∨ x = bu ∨ w.heap.size ≤ x := by
  have hgv : v.ownBlock = some g := by rw [hv]; rfl
  have e0 : blks v vs = g :: vs.filterMap Value.ownBlock := by unfold blks; rw [List.filterMap_cons_some hgv]
  have hsp : (blks v' (vs.take k ++ [u] ++ vs.drop k)).Perm (bu :: g' :: vs.filterMap Value.ownBlock) := by
    have := (blks_perm (v := v') (ins_perm vs k u)).trans (blks_cons hub)
    refine this.trans (List.Perm.cons _ ?_)
    unfold blks
    rw [List.filterMap_cons_some hv']
  have hnd : (P :: g :: vs.filterMap Value.ownBlock).Nodup := by have := h.apart; rwa [e0] at this
  have hbu' : bu ≠ P ∧ bu ≠ g ∧ bu ∉ vs.filterMap Value.ownBlock := by
    rw [e0] at hbu
    simpa [not_or] using hbu
  have hbl : bu < w.heap.size := own_lt hu hub
  have hgl : g < w.heap.size := h.foot (List.mem_cons.2 (.inr (by rw [e0]; simp)))
  have hgP : g ≠ P := fun e => (List.nodup_cons.1 hnd).1 (by rw [e]; simp)
  have hgn : g ∉ vs.filterMap Value.ownBlock := (List.nodup_cons.1 (List.nodup_cons.1 hnd).2).1
  have hPn : P ∉ vs.filterMap Value.ownBlock := fun e => (List.nodup_cons.1 hnd).1 (List.mem_cons.2 (.inr e))
  have hlow : ∀ x, x ∈ vs.filterMap Value.ownBlock → x < w.heap.size := fun x hx => h.foot (List.mem_cons.2 (.inr (by rw [e0]; exact List.mem_cons.2 (.inr hx))))
  have hg' : g' ≠ P ∧ g' ≠ bu ∧ g' ∉ vs.filterMap Value.ownBlock := by
    rcases hgg with h1 | h1
    · rw [h1]; exact ⟨hgP, Ne.symm hbu'.2.1, hgn⟩
    · exact ⟨by have := h.lt; omega, by omega, fun e => by have := hlow _ e; omega⟩
  have hnd2 : (P :: bu :: g' :: vs.filterMap Value.ownBlock).Nodup := by
    simp only [List.nodup_cons, List.mem_cons, not_or]
    exact ⟨⟨Ne.symm hbu'.1, Ne.symm hg'.1, hPn⟩, ⟨Ne.symm hg'.2.1, hbu'.2.2⟩, hg'.2.2, (List.nodup_cons.1 (List.nodup_cons.1 hnd).2).2⟩
  have k1 : ∀ x, x < w.heap.size → x ≠ g → x ≠ P → (w1.setCell ⟨P, 0, none⟩ v').heap[x]? = w.heap[x]? := fun x hx h1 h2 => (Below.heap_setCell _ _ _ _ h2).trans (hg.block x hx (by simp; omega))
  have hP1 : w1.heap[P]? = w.heap[P]? := hg.block P h.lt (by simp; omega)
  have c0 : w1.cell? ⟨P, 0, none⟩ = some v := (World.cell?_of_block (a := ⟨P, 0, none⟩) hP1).trans h.c0
  have hlen := h.len
  refine ⟨⟨by simp; exact Nat.lt_of_lt_of_le h.lt hg.size, ?_, ?_, ?_, ?_, ?_, ?_, ?_⟩, ?_, ?_⟩
  · exact World.cell?_setCell_same _ _ _ c0
  · rw [World.cell?_setCell_other _ _ _ _ (by simp)]
    exact (World.cell?_of_block (a := ⟨P, 1, none⟩) hP1).trans h.c1
  · rw [World.frozen?_setCell]; exact (World.frozen?_of_block (a := ⟨P, 0, none⟩) hP1).trans h.f0
  · rw [World.frozen?_setCell]; exact (World.frozen?_of_block (a := ⟨P, 1, none⟩) hP1).trans h.f1
  · have hl : (bs.take k ++ [l] ++ bs.drop k).length = bs.length + 1 := by simp; omega
    rw [hl]
    exact own_at hr fun q hq => by
      rw [hv'] at hq
      injection hq with hq
      subst hq
      exact Below.heap_setCell _ _ _ _ hg'.1
  · intro j x y hx hy
    rw [ins_get (by rw [hlen]; exact hk)] at hx
    rw [ins_get hk] at hy
    have old : ∀ j', vs[j']? = some x → bs[j']? = some y → (w1.setCell ⟨P, 0, none⟩ v').ownsRow 0 24 2 x y.length (y.flatMap pairF) := fun j' h1 h2 => own_at (h.rows j' x y h1 h2) fun q hq => by
      have hqm : q ∈ vs.filterMap Value.ownBlock := List.mem_filterMap.2 ⟨x, List.mem_of_getElem? h1, hq⟩
      exact k1 q (hlow q hqm) (fun e => hgn (by rw [← e]; exact hqm)) (fun e => hPn (by rw [← e]; exact hqm))
    by_cases h1 : j < k
    · rw [if_pos h1] at hx hy
      exact old j hx hy
    · rw [if_neg h1] at hx hy
      by_cases h2 : j = k
      · rw [if_pos h2] at hx hy
        injection hx with hx
        injection hy with hy
        subst hx hy
        exact own_at hu fun q hq => by
          rw [hub] at hq
          injection hq with hq
          subst hq
          exact k1 _ hbl hbu'.2.1 hbu'.1
      · rw [if_neg h2] at hx hy
        exact old (j - 1) hx hy
  · exact (hsp.cons P).nodup_iff.2 hnd2
  · exact (OnlyIn.ofGrown (F := P :: blks v vs) hg fun x hx => by injection hx with hx; subst hx; rw [e0]; simp).trans (OnlyIn.set (F := P :: blks v vs) P 0 v' (by simp)) fun x hx => .inl hx
  · intro x hx
    rcases List.mem_cons.1 (hsp.mem_iff.1 hx) with rfl | hx
    · exact .inr (.inl rfl)
    · rcases List.mem_cons.1 hx with rfl | hx
      · rcases hgg with h1 | h1
        · exact .inl (by rw [e0, h1]; simp)
        · exact .inr (.inr h1)
      · exact .inl (by rw [e0]; exact List.mem_cons.2 (.inr hx))

theorem BagAt.setRow' {w : World} {P : Nat} {v : Value} {vs : List Value} {bs : List (List (Int × Int))} {m : Nat} (h : BagAt w P v vs bs m) {i : Nat} {u : Value} (hu : vs[i]? = some u) {b : Nat} (hb : u.ownBlock = some b) {w1 : World} (hg : w.grownBy w1 (some b))
    {u' : Value} {l' : List (Int × Int)} (hr : w1.ownsRow 0 24 2 u' l'.length (l'.flatMap pairF)) (hb' : u'.ownBlock = some b ∨ u'.ownBlock = some w.heap.size) {g n c : Nat} (hv : v = .slice (some ⟨g, 0, none⟩) n c) (hn : bs.length = n) :
    BagAt (w1.setCell ⟨g, i, none⟩ u') P v (vs.set i u') (bs.set i l') m ∧ OnlyIn (P :: blks v vs) w (w1.setCell ⟨g, i, none⟩ u') ∧ ∀ x, x ∈ blks v (vs.set i u') → x ∈ blks v vs ∨ w.heap.size ≤ x := by
  subst hn
  rcases hb' with hb' | hb'
  · exact h.setRow hu hb hg hr hb' (.inl rfl) hv
  · exact h.setRow hu hb hg hr hb' (.inr (Nat.le_refl _)) hv
end Go.Proofs.Ytjmjnkilgoelbaa

namespace Go.Proofs.Ytjmjnkilgoelbaa
open Go.RowKit

/-- make of a row with spare room. -/
theorem mkcap {P : Program} {w : World} {ops : Array Oper} {rest : List Oper} {o : Oper} {a : Act} {Q : Exit → Act → World → Prop}
    (hg : o.guard = none) (l c : Operand) (t : TypeId) (hop : o.op = Op.makeSlice t l c) {e : TypeId} {z : Value} {size bytes : Nat} (ht : P.underlying t = some (.slice e)) (hE : EI P e z size bytes)
    (L C : Nat) {kl kc : IntKind} {l0 c0 : Int} (hl : a.eval l = .int kl l0) (hc : a.eval c = .int kc c0) (hl0 : l0 = (L : Int)) (hc0 : c0 = (C : Int)) (hLC : L ≤ C) (b2 : bytes * C ≤ 140737488355328)
    (hK : ∀ w' cur, RowAt w' w.heap.size e cur → cur.size = C * size → Below w.heap.size w w' → w'.heap.size = w.heap.size + 1 → wpList P ops Q rest (a.put o.dst (.slice (some ⟨w.heap.size, 0, none⟩) L C)) w') :
    wpList P ops Q (o :: rest) a w := by
  obtain ⟨i, hi, hz, hsize, hby, hzs, hsz, hbp⟩ := hE
  have h63 : C ≤ 140737488355328 := Nat.le_trans (Nat.le_mul_of_pos_left _ hbp) b2
  subst hl0 hc0
  have hb' : (i.bytes : Int) * (C : Int) ≤ 281474976710656 := by
    have h : ((i.bytes * C : Nat) : Int) ≤ 281474976710656 := by rw [hby]; omega
    rwa [Int.natCast_mul] at h
  have hr := run_make (P := P) w t e i z ht hi hz kl kc L C (by omega) (by omega) hb' (by omega)
  simp only [Int.toNat_natCast] at hr
  refine wpList_plain hg fun K hK' => ?_
  unfold Oper.wp
  simp only [execOp, hop, hl, hc, Sem.run_bind, hr, Result.andThen_ok, Sem.run_pure]
  exact hK' _ _ (hK _ _ (heap_alloc_new w _) (by rw [size_madeCells, hsize]) ((Below.refl _ _).alloc (Nat.le_refl _) _) (by simp))

theorem own_prefix {w : World} {base e size n k : Nat} {g c : Nat} {xs : List Value} (h : w.ownsRow base e size (.slice (some ⟨g, 0, none⟩) n c) n xs) (hk : k ≤ n) : w.ownsRow base e size (.slice (some ⟨g, 0, none⟩) k c) k (xs.take (k * size)) := by
  obtain ⟨cur, _, _, h3, h4, h5, h6, h7, h8⟩ := own_rowAt h
  refine rowAt_own h3 h4 (by omega) h6 h7 ?_
  rw [← h8, List.take_take, Nat.min_eq_left (Nat.mul_le_mul_right _ hk)]

theorem odd_flip {a b : Int × Int} (h : 0 ≤ oddI a b) : oddI b a ≤ 0 := by
  have := odd_turn a b
  omega

theorem geB_no {l : List (Int × Int)} {s x : Int × Int} {i : Nat} (h : geB l s i = false) (hx : l[i]? = some x) : oddI x s ≤ 0 := by
  rw [geB_some hx, decide_eq_false_iff_not] at h
  omega

theorem geB_yes {l : List (Int × Int)} {s x : Int × Int} {i : Nat} (h : geB l s i = true) (hx : l[i]? = some x) : oddI s x ≤ 0 := by
  rw [geB_some hx, decide_eq_true_eq] at h
  exact odd_flip h

theorem last_get {l : List (Int × Int)} (h : l ≠ []) : ∃ y, l[l.length - 1]? = some y := getElem?_ex (by have := List.length_pos_iff.2 h; omega)

theorem le_last {l : List (Int × Int)} (hl : SortedS l) {x y : Int × Int} (hx : x ∈ l) (hy : l[l.length - 1]? = some y) : oddI x y ≤ 0 := by
  obtain ⟨i, hi⟩ := List.getElem?_of_mem hx
  obtain ⟨h1, h2⟩ := List.getElem?_eq_some_iff.1 hi
  obtain ⟨h3, h4⟩ := List.getElem?_eq_some_iff.1 hy
  rcases Nat.lt_or_ge i (l.length - 1) with hlt | hge
  · have := List.pairwise_iff_getElem.1 hl i (l.length - 1) h1 h3 hlt
    rwa [h2, h4] at this
  · have he : i = l.length - 1 := by omega
    subst he
    rw [← h2, ← h4, oddI_self]
    exact Int.le_refl _

/-- All of a row whose last score is less odd. -/
theorem row_below {bs : List (List (Int × Int))} (hp : BagP bs) {s : Int × Int} (hs : scoreB s = true) {j : Nat} {l : List (Int × Int)} (hl : bs[j]? = some l) (h : lastGe bs s j = false) : ∀ x ∈ l, oddI x s ≤ 0 := fun x hx => by
  have hm := List.mem_of_getElem? hl
  obtain ⟨y, hy⟩ := last_get (hp.some l hm)
  rw [lastGe_some hl] at h
  exact odd_trans (allS_mem (hp.row hm).2 hx) (allS_mem (hp.row hm).2 (List.mem_of_getElem? hy)) hs (le_last (hp.row hm).1 hx hy) (geB_no h hy)

theorem rows_below {bs : List (List (Int × Int))} (hp : BagP bs) {s : Int × Int} (hs : scoreB s = true) {i : Nat} (h : ∀ j, j < i → lastGe bs s j = false) : ∀ x ∈ (bs.take i).flatten, oddI x s ≤ 0 := fun x hx => by
  obtain ⟨l, hl, hxl⟩ := List.mem_flatten.1 hx
  obtain ⟨j, hj⟩ := List.getElem?_of_mem hl
  rw [List.getElem?_take] at hj
  split at hj
  · rename_i hji
    exact row_below hp hs hj (h j hji) x hxl
  · cases hj

/-- All behind a row whose last score is not less odd. -/
theorem rows_behind {bs : List (List (Int × Int))} (hp : BagP bs) {s : Int × Int} (hs : scoreB s = true) {i : Nat} {l : List (Int × Int)} (hl : bs[i]? = some l) (h : lastGe bs s i = true) : ∀ y ∈ (bs.drop (i + 1)).flatten, oddI s y ≤ 0 := fun y hy => by
  have hm := List.mem_of_getElem? hl
  obtain ⟨z, hz⟩ := last_get (hp.some l hm)
  rw [lastGe_some hl] at h
  obtain ⟨l', hl', hyl⟩ := List.mem_flatten.1 hy
  obtain ⟨j, hj⟩ := List.getElem?_of_mem hl'
  rw [List.getElem?_drop] at hj
  obtain ⟨h1, h2⟩ := List.getElem?_eq_some_iff.1 hj
  obtain ⟨h3, h4⟩ := List.getElem?_eq_some_iff.1 hl
  have hpw := List.pairwise_iff_getElem.1 (List.pairwise_flatten.1 hp.sort).2 i (i + 1 + j) h3 h1 (by omega)
  rw [h2, h4] at hpw
  have hm' : l' ∈ bs := List.mem_of_getElem? hj
  exact odd_trans hs (allS_mem (hp.row hm).2 (List.mem_of_getElem? hz)) (allS_mem (hp.row hm').2 hyl) (geB_yes h hz) (hpw z (List.mem_of_getElem? hz) y hyl)

theorem bags_len {bs : List (List (Int × Int))} (hp : ∀ l, l ∈ bs → l ≠ []) : bs.length ≤ bs.flatten.length := by
  induction bs with
  | nil => simp
  | cons a l ih =>
    rw [List.flatten_cons, List.length_append, List.length_cons]
    have h2 := List.length_pos_iff.2 (hp a (by simp))
    have h3 := ih (fun b hb => hp b (by simp [hb]))
    omega

theorem set_flat {bs : List (List (Int × Int))} {i : Nat} (hi : i < bs.length) (x : List (Int × Int)) : (bs.set i x).flatten = (bs.take i).flatten ++ x ++ (bs.drop (i + 1)).flatten := by
  rw [List.set_eq_take_append_cons_drop, if_pos hi, List.flatten_append, List.flatten_cons, List.append_assoc]

theorem flat_at {bs : List (List (Int × Int))} {i : Nat} {l : List (Int × Int)} (hl : bs[i]? = some l) : bs.flatten = (bs.take i).flatten ++ l ++ (bs.drop (i + 1)).flatten := by
  obtain ⟨hi, he⟩ := List.getElem?_eq_some_iff.1 hl
  rw [← set_flat hi, ← he, List.set_getElem_self]

/-- One more score, in its place. -/
theorem flat_ins {bs : List (List (Int × Int))} (hp : BagP bs) {s : Int × Int} (hs : scoreB s = true) {i k : Nat} {l : List (Int × Int)} (hl : bs[i]? = some l) (hX : ∀ x ∈ (bs.take i).flatten, oddI x s ≤ 0) (hk1 : ∀ j, j < k → geB l s j = false) (hk2 : ∀ j, k ≤ j → j < l.length → geB l s j = true)
    (hY : ∀ y ∈ (bs.drop (i + 1)).flatten, oddI s y ≤ 0) :
    SortedS (bs.set i (l.take k ++ [s] ++ l.drop k)).flatten ∧ (bs.set i (l.take k ++ [s] ++ l.drop k)).flatten.Perm (s :: bs.flatten) ∧ allS (bs.set i (l.take k ++ [s] ++ l.drop k)).flatten = true := by
  have hi := (List.getElem?_eq_some_iff.1 hl).1
  have hf := flat_at hl
  have hso := hp.sort
  have e1 : (bs.set i (l.take k ++ [s] ++ l.drop k)).flatten = ((bs.take i).flatten ++ l.take k) ++ s :: (l.drop k ++ (bs.drop (i + 1)).flatten) := by
    rw [set_flat hi]; simp
  have e2 : bs.flatten = ((bs.take i).flatten ++ l.take k) ++ (l.drop k ++ (bs.drop (i + 1)).flatten) := by
    rw [hf]
    simp only [List.append_assoc]
    rw [← List.append_assoc (l.take k), List.take_append_drop]
  have hpm : (bs.set i (l.take k ++ [s] ++ l.drop k)).flatten.Perm (s :: bs.flatten) := by
    rw [e1, e2]
    exact List.perm_middle
  have hx1 : ∀ x ∈ l.take k, oddI x s ≤ 0 := fun x hx => by
    obtain ⟨j, hj⟩ := List.getElem?_of_mem hx
    rw [List.getElem?_take] at hj
    split at hj
    · exact geB_no (hk1 j (by assumption)) hj
    · cases hj
  have hy1 : ∀ y ∈ l.drop k, oddI s y ≤ 0 := fun y hy => by
    obtain ⟨j, hj⟩ := List.getElem?_of_mem hy
    rw [List.getElem?_drop] at hj
    exact geB_yes (hk2 (k + j) (by omega) (List.getElem?_eq_some_iff.1 hj).1) hj
  refine ⟨?_, hpm, ?_⟩
  · unfold SortedS at hso ⊢
    rw [e2, List.pairwise_append] at hso
    rw [e1, List.pairwise_append, List.pairwise_cons]
    refine ⟨hso.1, ⟨fun y hy => ?_, hso.2.1⟩, fun x hx y hy => ?_⟩
    · rcases List.mem_append.1 hy with hy | hy
      · exact hy1 y hy
      · exact hY y hy
    · rcases List.mem_cons.1 hy with rfl | hy
      · rcases List.mem_append.1 hx with hx | hx
        · exact hX x hx
        · exact hx1 x hx
      · exact hso.2.2 x hx y hy
  · refine allS_perm (l := s :: bs.flatten) ?_ hpm.symm
    unfold allS
    rw [List.all_cons, hs, Bool.true_and]
    exact hp.all
end Go.Proofs.Ytjmjnkilgoelbaa
