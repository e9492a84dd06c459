/-
  RowI: slices.Insert of one element into a row of the call's own.
-/
import Derived.Test.YtjmjnkilgoelbaaJ0a
import Derived.Test.YtjmjnkilgoelbaaJ0b
namespace Go.Proofs.Ytjmjnkilgoelbaa
open Go.RowKit

theorem insS_over (w : World) (a b : Addr) (la ca lb cb : Nat) (hne : a.block ≠ b.block) (tA tB : TypeId) (kA kB : Nat) (hsa : w.shape? a.block = some (tA, kA)) (hsb : w.shape? b.block = some (tB, kB)) (hkB : kB ≠ 0) (hfa : w.frozen? a = false) (hfe : w.frozen? { block := a.block, off := kA } = false) :
    (callFunc 149 #[.slice (some a) la ca, .slice (some b) lb cb]).run Try.prog w = .ok (.value (.bool false)) w := by
  obtain ⟨i, hi, _, h1, _⟩ := eiScore
  rw [run_callFunc_extern (P := Try.prog) (f := 149) (fn := Try.f149) (by kernel_rfl) (by kernel_rfl) (by kernel_rfl) (by kernel_rfl) (e := Extern.SlicesOverlaps.overlaps #[28, 28] #[4]) (by kernel_rfl),
    Lib.run_overlaps_apart w 28 4 24 Try.underlying28 i.size (fun w => by simp [sizeOf, typeInfo, hi]) a b la ca lb cb hne tA tB kA kB hsa hsb hkB hfa hfe]
  rfl

set_option maxRecDepth 100000 in
set_option maxHeartbeats 4000000 in
/-- At the end. -/
theorem insS_end (base : Nat) (v : Value) (n : Nat) (xs : List Value) (w : World) (vb : Nat) (vs : List Value) (hown : w.ownsRow base 24 2 v n xs) (hn : n ≤ 1000000)
    (hl : vs.length = 2) (hvs : ∀ j u, vs[j]? = some u → w.cell? ⟨vb, j, none⟩ = some u) (h1 : ∀ u ∈ vs, u.oneCell' = true) (hbase : base ≤ w.heap.size) :
    Calls Try.prog 85 #[v, .int .i64 n, .slice (some ⟨vb, 0, none⟩) 1 1] w fun e w' => ∃ v', e = .returned v' ∧ w'.ownsRow base 24 2 v' (n + 1) (xs ++ vs) ∧ w.grownBy w' v.ownBlock ∧ (v'.ownBlock = v.ownBlock ∨ v'.ownBlock = some w.heap.size) := by
  obtain ⟨i, hi, hz, hsize, hby, hzs, hsz, _⟩ := eiScore
  obtain ⟨v', w', hrun, h2, h3, _, h5⟩ := run_append_own_at (P := Try.prog) (w := w) base 28 28 24 i _ 2 16 Try.underlying28 hi hz hsize hby hzs hsz v n xs hown ⟨vb, 0, none⟩ 1 1 vs (by omega)
    (fun j u hj => by rw [Addr.add_lit, Nat.zero_add]; exact hvs j u hj) h1 (by unfold maxLen; omega) (by omega) hbase
  have HR := Lib.hid hrun
  have HP := Lib.hid (And.intro h2 (And.intro h3 h5))
  have hcase : v = .slice none 0 0 ∧ n = 0 ∨ ∃ g cap, v = .slice (some ⟨g, 0, none⟩) n cap ∧ n ≤ cap ∧ cap ≤ 9223372036854775807 := by
    rcases hown.2 with h | ⟨g, cap, _, h, _, _, h4, h6, _⟩
    · exact .inl h
    · exact .inr ⟨g, cap, h, h4, by simpa [maxLen] using h6⟩
  clear hown hrun h2 h3 h5 hvs h1 hl hi hz hsize hby hzs hsz hbase
  rcases hcase with ⟨rfl, rfl⟩ | ⟨g, cap, rfl, hc1, hc2⟩
  · go_enter Try.func85, Try.ntmps85
    go_wp2_with (at_builtin; refine Lib.wpList_append_run _ rfl _ _ _ _ rfl _ _ rfl rfl _ _ HR.out ?_)
    go_ret
    exact ⟨_, rfl, HP.out⟩
  · have hc3 : (n : Int) ≤ (cap : Int) := by omega
    by_cases hcn : cap = n
    · subst hcn
      go_enter Try.func85, Try.ntmps85
      go_wp2_with (at_builtin; refine Lib.wpList_append_run _ rfl _ _ _ _ rfl _ _ rfl rfl _ _ HR.out ?_)
      go_ret
      exact ⟨_, rfl, HP.out⟩
    · go_enter Try.func85, Try.ntmps85
      go_wp2_with (at_builtin; refine Lib.wpList_append_run _ rfl _ _ _ _ rfl _ _ rfl rfl _ _ HR.out ?_)
      go_ret
      exact ⟨_, rfl, HP.out⟩

set_option maxRecDepth 100000 in
set_option maxHeartbeats 4000000 in
/-- There is no room: a new row. -/
theorem insS_grow (base g n i : Nat) (xs : List Value) (cur : Array Value) (w : World) (vb : Nat) (vs : List Value) (hrow : RowAt w g 24 cur) (hcur : cur.size = n * 2) (hxs : cur.toList = xs) (hi : i < n) (hn : n ≤ 1000000)
    (hl : vs.length = 2) (hvb : RowAt w vb 24 vs.toArray) (h1 : ∀ u ∈ vs, u.oneCell' = true) (h2 : ∀ u ∈ xs, u.oneCell' = true) (hbase : base ≤ w.heap.size) :
    Calls Try.prog 85 #[.slice (some ⟨g, 0, none⟩) n n, .int .i64 i, .slice (some ⟨vb, 0, none⟩) 1 1] w fun e w' => ∃ v', e = .returned v' ∧ w'.ownsRow base 24 2 v' (n + 1) (xs.take (i * 2) ++ vs ++ xs.drop (i * 2)) ∧ Below w.heap.size w w' ∧ v'.ownBlock = some w.heap.size := by
  obtain ⟨ti, hti, hz0, hsize, hby, hzs0, hsz, _⟩ := eiScore
  obtain ⟨z, hz, hzs⟩ : ∃ z, ti.zero = some z ∧ z.cells.size = 2 := ⟨_, hz0, hzs0⟩
  clear hz0 hzs0
  have hxl : xs.length = n * 2 := by rw [← hxs, Array.length_toList, hcur]
  obtain ⟨C, hC⟩ : ∃ C, grownCap w (i + (n + 1 - i)) n 24 = C := ⟨_, rfl⟩
  have hC1 := grownCap_ge w (i + (n + 1 - i)) n 24
  have hC2 := grownCap_le_maxLen w (i + (n + 1 - i)) n 24 (by unfold maxLen; omega)
  have hrun := fun ty => run_append_make (P := Try.prog) w 28 3 ty 24 ti z .i64 .i64 Try.underlying28 Try.underlying3 hti hz ⟨g, 0, none⟩ i n (xs.take (i * 2)) (by rw [List.length_take, hsize]; omega)
    (fun j u hj => by
      rw [Addr.add_lit, Nat.zero_add, hrow.cell j, ← Array.getElem?_toList, hxs]
      rw [List.getElem?_take] at hj
      split at hj
      · exact hj
      · cases hj) (n + 1 - i) (by omega) (by rw [hsize]; omega) (by omega) (by omega) (by rw [hby]; omega)
  rw [hC] at hrun hC1 hC2
  rw [show i + (n + 1 - i) = n + 1 by omega] at hrun hC1
  obtain ⟨cur1, hcur1⟩ : ∃ c, (xs.take (i * 2)).toArray ++ Builtin.zeroCells z.cells (n + 1 - i) ++ Builtin.zeroCells z.cells (C - (n + 1)) = c := ⟨_, rfl⟩
  rw [hcur1] at hrun
  have hs1 : cur1.size = C * 2 := by
    rw [← hcur1]
    simp only [Array.size_append, List.size_toArray, size_zeroCells, hzs, List.length_take, hxl]
    omega
  have hg1 : ∀ j, j < i * 2 → cur1[j]? = xs[j]? := fun j hj => by
    have ha : (xs.take (i * 2)).length = i * 2 := by rw [List.length_take, hxl]; omega
    rw [← hcur1, Array.append_assoc, Array.getElem?_append_left (by simp; omega), ← Array.getElem?_toList, List.getElem?_take, if_pos hj]
  obtain ⟨W1, hW1⟩ : ∃ W, w.drew.alloc (.cells cur1 24) = W := ⟨_, rfl⟩
  rw [hW1] at hrun
  have r1 : RowAt W1 w.heap.size 24 cur1 := by rw [← hW1]; exact heap_alloc_new w.drew _
  have b1 : Below w.heap.size w W1 := by rw [← hW1]; exact (Below.refl _ _).drew.alloc (Nat.le_refl _) _
  have hvb1 : RowAt W1 vb 24 vs.toArray := (b1.block vb hvb.lt).trans hvb
  have hrow1 : RowAt W1 g 24 cur := (b1.block g hrow.lt).trans hrow
  obtain ⟨W2, hW2⟩ : ∃ W, W1.setCells w.heap.size (i * 2) vs = W := ⟨_, rfl⟩
  have r2 : RowAt W2 w.heap.size 24 (ovw cur1 (i * 2) vs) := by rw [← hW2]; exact r1.sets vs _
  have b2 : Below w.heap.size w W2 := by rw [← hW2]; exact sets_below (Nat.le_refl _) vs _ b1
  have hrow2 : RowAt W2 g 24 cur := (b2.block g hrow.lt).trans hrow
  have hcp1 : ∀ ty o1 l1 c1, o1 = i * 2 → l1 = n + 1 - i → (Builtin.copy_ #[28, 28] ty #[.slice (some ⟨w.heap.size, o1, none⟩) l1 c1, .slice (some ⟨vb, 0, none⟩) 1 1]).run Try.prog W1 = .ok (goInt (Nat.min 1 l1 : Nat)) W2 := by
    rintro ty o1 l1 c1 rfl rfl
    rw [← hW2]
    refine run_copy_row W1 _ _ ty 24 w.heap.size (i * 2) (n + 1 - i) c1 ⟨vb, 0, none⟩ 1 1 vs hti Try.underlying28 (by rw [hsize, hl, show Nat.min 1 (n + 1 - i) = 1 from Nat.min_eq_left (by omega)]) ?_ ?_ ?_ h1
    · intro j u hj; rw [Addr.add_lit, Nat.zero_add, hvb1.cell]; simpa using hj
    · intro j hj; rw [r1.cell, Array.getElem?_eq_getElem (by rw [hs1]; omega)]; rfl
    · intro j hj; exact r1.frozen _
  obtain ⟨W3, hW3⟩ : ∃ W, W2.drew.setCells w.heap.size (i * 2 + 2) (xs.drop (i * 2)) = W := ⟨_, rfl⟩
  have r3 : RowAt W3 w.heap.size 24 (ovw (ovw cur1 (i * 2) vs) (i * 2 + 2) (xs.drop (i * 2))) := by rw [← hW3]; exact RowAt.sets (xs.drop (i * 2)) (w := W2.drew) _ r2
  have b3 : Below w.heap.size w W3 := by rw [← hW3]; exact sets_below (Nat.le_refl _) (xs.drop (i * 2)) (w := W2.drew) _ b2.drew
  have hcp2 : ∀ ty o1 l1 c1 o2 l2 c2, o1 = (i + 1) * 2 → l1 = n - i → o2 = i * 2 → l2 = n - i → (Builtin.copy_ #[28, 28] ty #[.slice (some ⟨w.heap.size, o1, none⟩) l1 c1, .slice (some ⟨g, o2, none⟩) l2 c2]).run Try.prog W2.drew = .ok (goInt (Nat.min l2 l1 : Nat)) W3 := by
    rintro ty o1 l1 c1 o2 l2 c2 rfl rfl rfl rfl
    rw [← hW3, show (i + 1) * 2 = i * 2 + 2 by omega]
    refine run_copy_row W2.drew _ _ ty 24 w.heap.size (i * 2 + 2) (n - i) c1 ⟨g, i * 2, none⟩ (n - i) c2 (xs.drop (i * 2)) hti Try.underlying28 (by rw [hsize, List.length_drop, hxl, show Nat.min (n - i) (n - i) = n - i from Nat.min_self _]; omega) ?_ ?_ ?_ (fun u hu => h2 u (List.mem_of_mem_drop hu))
    · intro j u hj; rw [Addr.add_lit]; show W2.cell? _ = _; rw [hrow2.cell, ← Array.getElem?_toList, hxs]; rwa [List.getElem?_drop] at hj
    · intro j hj
      rw [List.length_drop, hxl] at hj
      show (W2.cell? _).isSome = _
      rw [r2.cell, Array.getElem?_eq_getElem (by rw [ovw_size, hs1]; omega)]; rfl
    · intro j hj; exact r2.frozen _
  have hcm : C ≤ maxLen := hC2
  have hown := rowAt_own (base := base) (n := n + 1) (size := 2) (xs := xs.take (i * 2) ++ vs ++ xs.drop (i * 2)) hbase r3 hC1 hcm (by rw [ovw_size, ovw_size, hs1]) (by have := ovw_ins (cur := cur1) (s := 2) hl (show i * 2 ≤ xs.length by omega) (by omega) hg1; rw [show xs.length + 2 = (n + 1) * 2 by omega] at this; exact this)
  have HRUN := Lib.hid hrun
  have HC1 := Lib.hid hcp1
  have HC2 := Lib.hid hcp2
  have HO := Lib.hid hown
  have HB := Lib.hid b3
  have hC3 : (C : Int) ≤ 9223372036854775807 := by unfold maxLen at hcm; omega
  have hC4 : ¬ (C = i) := by omega
  have hC5 : ¬ (C = i + 1) := by omega
  have hC6 : (n : Int) + 1 ≤ (C : Int) := by omega
  have e1 : ((n : Int) + 1 - i) = ((n + 1 - i : Nat) : Int) := by omega
  have hi1 : ¬ ((i : Int) = (n : Int)) := by omega
  have hi2 : ¬ (n = i) := by omega
  have hi3 : (i : Int) ≤ (n : Int) := by omega
  have hi4 : (i : Int) + 1 ≤ (n : Int) := by omega
  have hn1 : (n : Int) ≤ 1000000 := by omega
  have hi5 : (0 : Int) ≤ (i : Int) + 1 := by omega
  have hw1 : IntKind.i64.wrap ((i : Int) + 1) = (i : Int) + 1 := by rw [IntKind.wrap_i64]; omega
  have ht1 : ((i : Int) + 1).toNat = i + 1 := by omega
  clear hrun hcp1 hcp2 hown b3 r1 r2 r3 b1 b2 hvb hvb1 hrow hrow1 hrow2 hcur hxs hg1 hs1 hcur1 hW1 hW2 hW3 hl h1 h2 hxl hC hC1 hC2 hcm hti hz hsize hby hzs hsz
  go_enter Try.func85, Try.ntmps85
  go_wp2_with (first | (at_builtin; refine Lib.wpList_append_run _ rfl _ _ _ _ rfl _ _ rfl rfl _ _ (HRUN.out _) ?_) | (refine wpList_copy_run rfl _ _ 28 28 rfl rfl rfl (HC1.out _ _ _ _ (by omega) (by omega)) ?_))
  refine wp_region_held_drew (S := fun w' => True) (by kernel_rfl) ?_ (fun hHeld => ?_); (focus (first | with_reducible exact True.intro | ((try dsimp only); and_intros <;> first | (go_simp; done) | (go_keep; done)))); (refine lexTk 0 (v := ?_) rfl hHeld ?_ (by kernel_rfl) (fun _ _ _ h => h) ?_ ?_; rotate_left 2; (focus rfl); (focus (intro w hSw; (try dsimp only at hSw); first | (go_simp; done) | (go_simp; with_reducible rfl)))); (try simp only [Act.put, List.setIfInBounds_toArray, List.set_cons_zero, List.set_cons_succ]); (refine lexTk 1 (v := ?_) rfl hHeld ?_ (by kernel_rfl) (fun _ _ _ h => h) ?_ ?_; rotate_left 2; (focus rfl); (focus (intro w hSw; (try dsimp only at hSw); first | (go_simp; done) | (go_simp; with_reducible rfl)))); (try simp only [Act.put, List.setIfInBounds_toArray, List.set_cons_zero, List.set_cons_succ]); (refine lexTk 2 (v := ?_) rfl hHeld ?_ (by kernel_rfl) (fun _ _ _ h => h) ?_ ?_; rotate_left 2; (focus rfl); (focus (intro w hSw; (try dsimp only at hSw); first | (go_simp; done) | (go_simp; with_reducible rfl)))); (try simp only [Act.put, List.setIfInBounds_toArray, List.set_cons_zero, List.set_cons_succ]); (refine lexTk 3 (v := ?_) rfl hHeld ?_ (by kernel_rfl) (fun _ _ _ h => h) ?_ ?_; rotate_left 2; (focus rfl); (focus (intro w hSw; (try dsimp only at hSw); first | (go_simp; done) | (go_simp; with_reducible rfl)))); (try simp only [Act.put, List.setIfInBounds_toArray, List.set_cons_zero, List.set_cons_succ]); (refine lexTk 4 (v := ?_) rfl hHeld ?_ (by kernel_rfl) (fun _ _ _ h => h) ?_ ?_; rotate_left 2; (focus rfl); (focus (intro w hSw; (try dsimp only at hSw); first | (go_simp; done) | (go_simp; with_reducible rfl)))); (try simp only [Act.put, List.setIfInBounds_toArray, List.set_cons_zero, List.set_cons_succ]); (refine lexTk 5 (v := ?_) rfl hHeld ?_ (by kernel_rfl) (fun _ _ _ h => h) ?_ ?_; rotate_left 2; (focus rfl); (focus (intro w hSw; (try dsimp only at hSw); first | (go_simp; done) | (go_simp; with_reducible rfl)))); (try simp only [Act.put, List.setIfInBounds_toArray, List.set_cons_zero, List.set_cons_succ]); (refine lexTk 6 (v := ?_) rfl hHeld ?_ (by kernel_rfl) (fun _ _ _ h => h) ?_ ?_; rotate_left 2; (focus rfl); (focus (intro w hSw; (try dsimp only at hSw); first | (go_simp; done) | (go_simp; with_reducible rfl)))); (try simp only [Act.put, List.setIfInBounds_toArray, List.set_cons_zero, List.set_cons_succ]); (refine lexTk 7 (v := ?_) rfl hHeld ?_ (by kernel_rfl) (fun _ _ _ h => h) ?_ ?_; rotate_left 2; (focus rfl); (focus (intro w hSw; (try dsimp only at hSw); first | (go_simp; done) | (go_simp; with_reducible rfl)))); (try simp only [Act.put, List.setIfInBounds_toArray, List.set_cons_zero, List.set_cons_succ]); refine lexHv 8 rfl ?_ (by kernel_rfl); (intro K hK); ((refine copy_step rfl _ _ 28 28 rfl rfl rfl (HC2.out _ _ _ _ _ _ _ (by omega) (by omega) (by omega) (by omega)) ?_)); refine hK.out _ _ ?_ ?_; (focus (first | with_reducible exact True.intro | ((try dsimp only); and_intros <;> first | (go_simp; done) | (go_keep; done)))); (clear hHeld hK K); (intro hHeld); (try simp only [Act.put, List.setIfInBounds_toArray, List.set_cons_zero, List.set_cons_succ]); refine wpAnyH_done (by kernel_rfl) ?_ _
  go_wp2_with fail
  go_ret
  exact ⟨_, rfl, HO.out, HB.out, rfl⟩

set_option maxRecDepth 100000 in
set_option maxHeartbeats 4000000 in
/-- There is room: in place. -/
theorem insS_shift (base g n i cap : Nat) (xs : List Value) (cur : Array Value) (w : World) (vb : Nat) (vs : List Value) (hb : base ≤ g) (hrow : RowAt w g 24 cur) (hcur : cur.size = cap * 2) (hxs : cur.toList.take (n * 2) = xs) (hi : i < n) (hn : n ≤ 1000000)
    (hcap : n + 1 ≤ cap) (hcm : cap ≤ maxLen) (hne : vb ≠ g)
    (hl : vs.length = 2) (hvb : RowAt w vb 24 vs.toArray) (h1 : ∀ u ∈ vs, u.oneCell' = true) (h2 : ∀ u ∈ xs, u.oneCell' = true) :
    Calls Try.prog 85 #[.slice (some ⟨g, 0, none⟩) n cap, .int .i64 i, .slice (some ⟨vb, 0, none⟩) 1 1] w fun e w' => ∃ v', e = .returned v' ∧ w'.ownsRow base 24 2 v' (n + 1) (xs.take (i * 2) ++ vs ++ xs.drop (i * 2)) ∧ w.grownBy w' (some g) ∧ v'.ownBlock = some g := by
  obtain ⟨ti, hti, _, hsize, _⟩ := eiScore
  have hxl : xs.length = n * 2 := by rw [← hxs, List.length_take, Array.length_toList, hcur]; omega
  have hget : ∀ j, j < n * 2 → cur[j]? = xs[j]? := fun j hj => by rw [← hxs, List.getElem?_take, if_pos hj, Array.getElem?_toList]
  obtain ⟨W2, hW2⟩ : ∃ W, w.drew.setCells g (i * 2 + 2) (xs.drop (i * 2)) = W := ⟨_, rfl⟩
  have r2 : RowAt W2 g 24 (ovw cur (i * 2 + 2) (xs.drop (i * 2))) := by rw [← hW2]; exact RowAt.sets (xs.drop (i * 2)) (w := w.drew) _ hrow
  have k2 : ∀ q, q ≠ g → W2.heap[q]? = w.heap[q]? := fun q hq => by rw [← hW2]; exact sets_other (xs.drop (i * 2)) w.drew _ hq
  have z2 : W2.heap.size = w.heap.size := by rw [← hW2]; exact sets_size (xs.drop (i * 2)) w.drew _
  have o2 : w.grownBy W2 (some g) := by
    have hB := sets_below (B := 0) (Nat.zero_le g) (xs.drop (i * 2)) (i * 2 + 2) ((Below.refl 0 w).drew)
    rw [hW2] at hB
    exact ⟨hB.os, hB.tape, hB.output, hB.size, fun q _ hq => k2 q (fun h => hq (by rw [h]))⟩
  have hvb2 : RowAt W2 vb 24 vs.toArray := (k2 vb hne).trans hvb
  have hcp1 : ∀ ty o1 l1 c1 o2 l2 c2, o1 = (i + 1) * 2 → l1 = n - i → o2 = i * 2 → l2 = n + 1 - i → (Builtin.copy_ #[28, 28] ty #[.slice (some ⟨g, o1, none⟩) l1 c1, .slice (some ⟨g, o2, none⟩) l2 c2]).run Try.prog w.drew = .ok (goInt (Nat.min l2 l1 : Nat)) W2 := by
    rintro ty o1 l1 c1 o2 l2 c2 rfl rfl rfl rfl
    rw [← hW2, show (i + 1) * 2 = i * 2 + 2 by omega]
    refine run_copy_row w.drew _ _ ty 24 g (i * 2 + 2) (n - i) c1 ⟨g, i * 2, none⟩ (n + 1 - i) c2 (xs.drop (i * 2)) hti Try.underlying28 (by rw [hsize, List.length_drop, hxl, show Nat.min (n + 1 - i) (n - i) = n - i from Nat.min_eq_right (by omega)]; omega) ?_ ?_ ?_ (fun u hu => h2 u (List.mem_of_mem_drop hu))
    · intro j u hj
      have hjl : j < n * 2 - i * 2 := by have := (List.getElem?_eq_some_iff.1 hj).1; rw [List.length_drop, hxl] at this; exact this
      rw [Addr.add_lit]; show w.cell? _ = _; rw [hrow.cell, hget _ (by omega)]; rwa [List.getElem?_drop] at hj
    · intro j hj
      rw [List.length_drop, hxl] at hj
      show (w.cell? _).isSome = _
      rw [hrow.cell, Array.getElem?_eq_getElem (by rw [hcur]; omega)]; rfl
    · intro j hj; exact hrow.frozen _
  obtain ⟨W3, hW3⟩ : ∃ W, W2.setCells g (i * 2) vs = W := ⟨_, rfl⟩
  have r3 : RowAt W3 g 24 (ovw (ovw cur (i * 2 + 2) (xs.drop (i * 2))) (i * 2) vs) := by rw [← hW3]; exact r2.sets vs _
  have o3 : w.grownBy W3 (some g) := by
    have hB := sets_below (B := 0) (Nat.zero_le g) vs (i * 2) (Below.refl 0 W2)
    rw [hW3] at hB
    exact ⟨hB.os.trans o2.os, hB.tape.trans o2.tape, hB.output.trans o2.output, by have := hB.size; omega, fun q hq hne => by
      rw [← hW3]; exact (sets_other vs W2 _ (fun h => hne (by rw [h]))).trans (k2 q (fun h => hne (by rw [h])))⟩
  have hcp2 : ∀ ty o1 l1 c1, o1 = i * 2 → l1 = n + 1 - i → (Builtin.copy_ #[28, 28] ty #[.slice (some ⟨g, o1, none⟩) l1 c1, .slice (some ⟨vb, 0, none⟩) 1 1]).run Try.prog W2 = .ok (goInt (Nat.min 1 l1 : Nat)) W3 := by
    rintro ty o1 l1 c1 rfl rfl
    rw [← hW3]
    refine run_copy_row W2 _ _ ty 24 g (i * 2) (n + 1 - i) c1 ⟨vb, 0, none⟩ 1 1 vs hti Try.underlying28 (by rw [hsize, hl, show Nat.min 1 (n + 1 - i) = 1 from Nat.min_eq_left (by omega)]) ?_ ?_ ?_ h1
    · intro j u hj; rw [Addr.add_lit, Nat.zero_add, hvb2.cell]; simpa using hj
    · intro j hj; rw [r2.cell, Array.getElem?_eq_getElem (by rw [ovw_size, hcur]; omega)]; rfl
    · intro j hj; exact r2.frozen _
  have hown := rowAt_own (base := base) (n := n + 1) (size := 2) (xs := xs.take (i * 2) ++ vs ++ xs.drop (i * 2)) hb r3 hcap hcm (by rw [ovw_size, ovw_size, hcur]) (by have := ovw_ins2 (cur := cur) (s := 2) hl (show i * 2 ≤ xs.length by omega) (by omega) (fun j hj => hget j (by omega)); rw [show xs.length + 2 = (n + 1) * 2 by omega] at this; exact this)
  have hov : ∀ o1 lb cb, (callFunc 149 #[.slice (some ⟨vb, 0, none⟩) 1 1, .slice (some ⟨g, o1, none⟩) lb cb]).run Try.prog w = .ok (.value (.bool false)) w := fun o1 lb cb =>
    insS_over w ⟨vb, 0, none⟩ ⟨g, o1, none⟩ 1 1 lb cb hne _ _ _ _ hvb.shape hrow.shape (by omega) (hvb.frozen _) (hvb.frozen _)
  have HC1 := Lib.hid hcp1
  have HC2 := Lib.hid hcp2
  have HO := Lib.hid hown
  have HB := Lib.hid o3
  have hC3 : (cap : Int) ≤ 9223372036854775807 := by unfold maxLen at hcm; omega
  have hC4 : ¬ (cap = i) := by omega
  have hC5 : ¬ (cap = i + 1) := by omega
  have hC6 : (n : Int) + 1 ≤ (cap : Int) := by omega
  have hi1 : ¬ ((i : Int) = (n : Int)) := by omega
  have hi3 : (i : Int) ≤ (n : Int) := by omega
  have hi4 : (i : Int) + 1 ≤ (n : Int) + 1 := by omega
  have hi6 : (i : Int) ≤ (n : Int) + 1 := by omega
  have hn1 : (n : Int) ≤ 1000000 := by omega
  have hi5 : (0 : Int) ≤ (i : Int) + 1 := by omega
  have hn5 : (0 : Int) ≤ (n : Int) + 1 := by omega
  have hw1 : IntKind.i64.wrap ((i : Int) + 1) = (i : Int) + 1 := by rw [IntKind.wrap_i64]; omega
  have ht1 : ((i : Int) + 1).toNat = i + 1 := by omega
  have ht2 : ((n : Int) + 1).toNat = n + 1 := by omega
  clear hcp1 hcp2 hown r2 r3 k2 z2 o2 o3 hvb hvb2 hrow hcur hxs hW2 hW3 hl h1 h2 hxl hget hcm hti hsize hb
  go_enter Try.func85, Try.ntmps85
  go_wp2_with (simp only [hov])
  refine wp_region_held_drew (S := fun w' => True) (by kernel_rfl) ?_ (fun hHeld => ?_); (focus (first | with_reducible exact True.intro | ((try dsimp only); and_intros <;> first | (go_simp; done) | (go_keep; done)))); (refine lexTk 0 (v := ?_) rfl hHeld ?_ (by kernel_rfl) (fun _ _ _ h => h) ?_ ?_; rotate_left 2; (focus rfl); (focus (intro w hSw; (try dsimp only at hSw); first | (go_simp; done) | (go_simp; with_reducible rfl)))); (try simp only [Act.put, List.setIfInBounds_toArray, List.set_cons_zero, List.set_cons_succ]); (refine lexTk 1 (v := ?_) rfl hHeld ?_ (by kernel_rfl) (fun _ _ _ h => h) ?_ ?_; rotate_left 2; (focus rfl); (focus (intro w hSw; (try dsimp only at hSw); first | (go_simp; done) | (go_simp; with_reducible rfl)))); (try simp only [Act.put, List.setIfInBounds_toArray, List.set_cons_zero, List.set_cons_succ]); (refine lexTk 2 (v := ?_) rfl hHeld ?_ (by kernel_rfl) (fun _ _ _ h => h) ?_ ?_; rotate_left 2; (focus rfl); (focus (intro w hSw; (try dsimp only at hSw); first | (go_simp; done) | (go_simp; with_reducible rfl)))); (try simp only [Act.put, List.setIfInBounds_toArray, List.set_cons_zero, List.set_cons_succ]); (refine lexTk 3 (v := ?_) rfl hHeld ?_ (by kernel_rfl) (fun _ _ _ h => h) ?_ ?_; rotate_left 2; (focus rfl); (focus (intro w hSw; (try dsimp only at hSw); first | (go_simp; done) | (go_simp; with_reducible rfl)))); (try simp only [Act.put, List.setIfInBounds_toArray, List.set_cons_zero, List.set_cons_succ]); (refine lexTk 4 (v := ?_) rfl hHeld ?_ (by kernel_rfl) (fun _ _ _ h => h) ?_ ?_; rotate_left 2; (focus rfl); (focus (intro w hSw; (try dsimp only at hSw); first | (go_simp; done) | (go_simp; with_reducible rfl)))); (try simp only [Act.put, List.setIfInBounds_toArray, List.set_cons_zero, List.set_cons_succ]); (refine lexTk 5 (v := ?_) rfl hHeld ?_ (by kernel_rfl) (fun _ _ _ h => h) ?_ ?_; rotate_left 2; (focus rfl); (focus (intro w hSw; (try dsimp only at hSw); first | (go_simp; done) | (go_simp; with_reducible rfl)))); (try simp only [Act.put, List.setIfInBounds_toArray, List.set_cons_zero, List.set_cons_succ]); (refine lexTk 6 (v := ?_) rfl hHeld ?_ (by kernel_rfl) (fun _ _ _ h => h) ?_ ?_; rotate_left 2; (focus rfl); (focus (intro w hSw; (try dsimp only at hSw); first | (go_simp; done) | (go_simp; with_reducible rfl)))); (try simp only [Act.put, List.setIfInBounds_toArray, List.set_cons_zero, List.set_cons_succ]); (refine lexTk 7 (v := ?_) rfl hHeld ?_ (by kernel_rfl) (fun _ _ _ h => h) ?_ ?_; rotate_left 2; (focus rfl); (focus (intro w hSw; (try dsimp only at hSw); first | (go_simp; done) | (go_simp; with_reducible rfl)))); (try simp only [Act.put, List.setIfInBounds_toArray, List.set_cons_zero, List.set_cons_succ]); refine lexHv 8 rfl ?_ (by kernel_rfl); (intro K hK); ((refine copy_step rfl _ _ 28 28 rfl rfl rfl (HC1.out _ _ _ _ _ _ _ (by omega) (by omega) (by omega) (by omega)) ?_)); refine hK.out _ _ ?_ ?_; (focus (first | with_reducible exact True.intro | ((try dsimp only); and_intros <;> first | (go_simp; done) | (go_keep; done)))); (clear hHeld hK K); (intro hHeld); (try simp only [Act.put, List.setIfInBounds_toArray, List.set_cons_zero, List.set_cons_succ]); refine wpAnyH_done (by kernel_rfl) ?_ _
  go_wp2_with (refine wpList_copy_run rfl _ _ 28 28 rfl rfl rfl (HC2.out _ _ _ _ (by omega) (by omega)) ?_)
  go_ret
  exact ⟨_, rfl, HO.out, HB.out, rfl⟩

/-- slices.Insert of one element into a row of the call's own. -/
theorem insS_any (base : Nat) (v : Value) (n i : Nat) (xs : List Value) (w : World) (vb : Nat) (vs : List Value) (hown : w.ownsRow base 24 2 v n xs) (hi : i ≤ n) (hn : n ≤ 1000000)
    (hl : vs.length = 2) (hvb : RowAt w vb 24 vs.toArray) (hne : v.ownBlock ≠ some vb) (h1 : ∀ u ∈ vs, u.oneCell' = true) (h2 : ∀ u ∈ xs, u.oneCell' = true) (hbase : base ≤ w.heap.size) :
    Calls Try.prog 85 #[v, .int .i64 i, .slice (some ⟨vb, 0, none⟩) 1 1] w fun e w' => ∃ v', e = .returned v' ∧ w'.ownsRow base 24 2 v' (n + 1) (xs.take (i * 2) ++ vs ++ xs.drop (i * 2)) ∧ w.grownBy w' v.ownBlock ∧ (v'.ownBlock = v.ownBlock ∨ v'.ownBlock = some w.heap.size) := by
  have hxl := hown.1
  by_cases hin : i = n
  · subst hin
    have := insS_end base v i xs w vb vs hown hn hl (fun j u hj => by rw [hvb.cell]; simpa using hj) h1 hbase
    rw [List.take_of_length_le (by omega), List.drop_of_length_le (by omega), List.append_nil]
    exact this
  · rcases hown.2 with ⟨_, h0⟩ | ⟨g, cap, cur, rfl, hb, hrow, hc1, hcm, hsz, htk⟩
    · omega
    · by_cases hroom : n + 1 ≤ cap
      · refine (insS_shift base g n i cap xs cur w vb vs hb hrow hsz htk (by omega) hn hroom hcm (fun h => hne (by rw [h]; rfl)) hl hvb h1 h2).mono ?_
        rintro e w' ⟨v', rfl, k1, k2, k3⟩
        exact ⟨v', rfl, k1, k2, .inl k3⟩
      · obtain rfl : cap = n := by omega
        refine (insS_grow base g cap i xs cur w vb vs hrow hsz (by rw [← htk]; exact (List.take_of_length_le (by rw [Array.length_toList, hsz]; exact Nat.le_refl _)).symm) (by omega) hn hl hvb h1 h2 hbase).mono ?_
        rintro e w' ⟨v', rfl, k1, k2, k3⟩
        exact ⟨v', rfl, k1, ⟨k2.os, k2.tape, k2.output, k2.size, fun q hq _ => k2.block q hq⟩, .inr k3⟩

theorem eiRow : EI Try.prog 28 (.slice none 0 0) 1 24 := .of (by kernel_rfl) rfl (by decide) (by decide)

theorem insB_over (w : World) (a b : Addr) (la ca lb cb : Nat) (hne : a.block ≠ b.block) (tA tB : TypeId) (kA kB : Nat) (hsa : w.shape? a.block = some (tA, kA)) (hsb : w.shape? b.block = some (tB, kB)) (hkB : kB ≠ 0) (hfa : w.frozen? a = false) (hfe : w.frozen? { block := a.block, off := kA } = false) :
    (callFunc 151 #[.slice (some a) la ca, .slice (some b) lb cb]).run Try.prog w = .ok (.value (.bool false)) w := by
  obtain ⟨i, hi, _, h1, _⟩ := eiRow
  rw [run_callFunc_extern (P := Try.prog) (f := 151) (fn := Try.f151) (by kernel_rfl) (by kernel_rfl) (by kernel_rfl) (by kernel_rfl) (e := Extern.SlicesOverlaps.overlaps #[128, 128] #[4]) (by kernel_rfl),
    Lib.run_overlaps_apart w 128 4 28 Try.underlying128 i.size (fun w => by simp [sizeOf, typeInfo, hi]) a b la ca lb cb hne tA tB kA kB hsa hsb hkB hfa hfe]
  rfl

set_option maxRecDepth 100000 in
set_option maxHeartbeats 4000000 in
/-- At the end. -/
theorem insB_end (base : Nat) (v : Value) (n : Nat) (xs : List Value) (w : World) (vb : Nat) (vs : List Value) (hown : w.ownsRow base 28 1 v n xs) (hn : n ≤ 1000000)
    (hl : vs.length = 1) (hvs : ∀ j u, vs[j]? = some u → w.cell? ⟨vb, j, none⟩ = some u) (h1 : ∀ u ∈ vs, u.oneCell' = true) (hbase : base ≤ w.heap.size) :
    Calls Try.prog 86 #[v, .int .i64 n, .slice (some ⟨vb, 0, none⟩) 1 1] w fun e w' => ∃ v', e = .returned v' ∧ w'.ownsRow base 28 1 v' (n + 1) (xs ++ vs) ∧ w.grownBy w' v.ownBlock ∧ (v'.ownBlock = v.ownBlock ∨ v'.ownBlock = some w.heap.size) := by
  obtain ⟨i, hi, hz, hsize, hby, hzs, hsz, _⟩ := eiRow
  obtain ⟨v', w', hrun, h2, h3, _, h5⟩ := run_append_own_at (P := Try.prog) (w := w) base 128 128 28 i _ 1 24 Try.underlying128 hi hz hsize hby hzs hsz v n xs hown ⟨vb, 0, none⟩ 1 1 vs (by omega)
    (fun j u hj => by rw [Addr.add_lit, Nat.zero_add]; exact hvs j u hj) h1 (by unfold maxLen; omega) (by omega) hbase
  have HR := Lib.hid hrun
  have HP := Lib.hid (And.intro h2 (And.intro h3 h5))
  have hcase : v = .slice none 0 0 ∧ n = 0 ∨ ∃ g cap, v = .slice (some ⟨g, 0, none⟩) n cap ∧ n ≤ cap ∧ cap ≤ 9223372036854775807 := by
    rcases hown.2 with h | ⟨g, cap, _, h, _, _, h4, h6, _⟩
    · exact .inl h
    · exact .inr ⟨g, cap, h, h4, by simpa [maxLen] using h6⟩
  clear hown hrun h2 h3 h5 hvs h1 hl hi hz hsize hby hzs hsz hbase
  rcases hcase with ⟨rfl, rfl⟩ | ⟨g, cap, rfl, hc1, hc2⟩
  · go_enter Try.func86, Try.ntmps86
    go_wp2_with (at_builtin; refine Lib.wpList_append_run _ rfl _ _ _ _ rfl _ _ rfl rfl _ _ HR.out ?_)
    go_ret
    exact ⟨_, rfl, HP.out⟩
  · have hc3 : (n : Int) ≤ (cap : Int) := by omega
    by_cases hcn : cap = n
    · subst hcn
      go_enter Try.func86, Try.ntmps86
      go_wp2_with (at_builtin; refine Lib.wpList_append_run _ rfl _ _ _ _ rfl _ _ rfl rfl _ _ HR.out ?_)
      go_ret
      exact ⟨_, rfl, HP.out⟩
    · go_enter Try.func86, Try.ntmps86
      go_wp2_with (at_builtin; refine Lib.wpList_append_run _ rfl _ _ _ _ rfl _ _ rfl rfl _ _ HR.out ?_)
      go_ret
      exact ⟨_, rfl, HP.out⟩

set_option maxRecDepth 100000 in
set_option maxHeartbeats 4000000 in
/-- There is no room: a new row. -/
theorem insB_grow (base g n i : Nat) (xs : List Value) (cur : Array Value) (w : World) (vb : Nat) (vs : List Value) (hrow : RowAt w g 28 cur) (hcur : cur.size = n * 1) (hxs : cur.toList = xs) (hi : i < n) (hn : n ≤ 1000000)
    (hl : vs.length = 1) (hvb : RowAt w vb 28 vs.toArray) (h1 : ∀ u ∈ vs, u.oneCell' = true) (h2 : ∀ u ∈ xs, u.oneCell' = true) (hbase : base ≤ w.heap.size) :
    Calls Try.prog 86 #[.slice (some ⟨g, 0, none⟩) n n, .int .i64 i, .slice (some ⟨vb, 0, none⟩) 1 1] w fun e w' => ∃ v', e = .returned v' ∧ w'.ownsRow base 28 1 v' (n + 1) (xs.take (i * 1) ++ vs ++ xs.drop (i * 1)) ∧ Below w.heap.size w w' ∧ v'.ownBlock = some w.heap.size := by
  obtain ⟨ti, hti, hz0, hsize, hby, hzs0, hsz, _⟩ := eiRow
  obtain ⟨z, hz, hzs⟩ : ∃ z, ti.zero = some z ∧ z.cells.size = 1 := ⟨_, hz0, hzs0⟩
  clear hz0 hzs0
  have hxl : xs.length = n * 1 := by rw [← hxs, Array.length_toList, hcur]
  obtain ⟨C, hC⟩ : ∃ C, grownCap w (i + (n + 1 - i)) n 28 = C := ⟨_, rfl⟩
  have hC1 := grownCap_ge w (i + (n + 1 - i)) n 28
  have hC2 := grownCap_le_maxLen w (i + (n + 1 - i)) n 28 (by unfold maxLen; omega)
  have hrun := fun ty => run_append_make (P := Try.prog) w 128 3 ty 28 ti z .i64 .i64 Try.underlying128 Try.underlying3 hti hz ⟨g, 0, none⟩ i n (xs.take (i * 1)) (by rw [List.length_take, hsize]; omega)
    (fun j u hj => by
      rw [Addr.add_lit, Nat.zero_add, hrow.cell j, ← Array.getElem?_toList, hxs]
      rw [List.getElem?_take] at hj
      split at hj
      · exact hj
      · cases hj) (n + 1 - i) (by omega) (by rw [hsize]; omega) (by omega) (by omega) (by rw [hby]; omega)
  rw [hC] at hrun hC1 hC2
  rw [show i + (n + 1 - i) = n + 1 by omega] at hrun hC1
  obtain ⟨cur1, hcur1⟩ : ∃ c, (xs.take (i * 1)).toArray ++ Builtin.zeroCells z.cells (n + 1 - i) ++ Builtin.zeroCells z.cells (C - (n + 1)) = c := ⟨_, rfl⟩
  rw [hcur1] at hrun
  have hs1 : cur1.size = C * 1 := by
    rw [← hcur1]
    simp only [Array.size_append, List.size_toArray, size_zeroCells, hzs, List.length_take, hxl]
    omega
  have hg1 : ∀ j, j < i * 1 → cur1[j]? = xs[j]? := fun j hj => by
    have ha : (xs.take (i * 1)).length = i * 1 := by rw [List.length_take, hxl]; omega
    rw [← hcur1, Array.append_assoc, Array.getElem?_append_left (by simp; omega), ← Array.getElem?_toList, List.getElem?_take, if_pos hj]
  obtain ⟨W1, hW1⟩ : ∃ W, w.drew.alloc (.cells cur1 28) = W := ⟨_, rfl⟩
  rw [hW1] at hrun
  have r1 : RowAt W1 w.heap.size 28 cur1 := by rw [← hW1]; exact heap_alloc_new w.drew _
  have b1 : Below w.heap.size w W1 := by rw [← hW1]; exact (Below.refl _ _).drew.alloc (Nat.le_refl _) _
  have hvb1 : RowAt W1 vb 28 vs.toArray := (b1.block vb hvb.lt).trans hvb
  have hrow1 : RowAt W1 g 28 cur := (b1.block g hrow.lt).trans hrow
  obtain ⟨W2, hW2⟩ : ∃ W, W1.setCells w.heap.size (i * 1) vs = W := ⟨_, rfl⟩
  have r2 : RowAt W2 w.heap.size 28 (ovw cur1 (i * 1) vs) := by rw [← hW2]; exact r1.sets vs _
  have b2 : Below w.heap.size w W2 := by rw [← hW2]; exact sets_below (Nat.le_refl _) vs _ b1
  have hrow2 : RowAt W2 g 28 cur := (b2.block g hrow.lt).trans hrow
  have hcp1 : ∀ ty o1 l1 c1, o1 = i * 1 → l1 = n + 1 - i → (Builtin.copy_ #[128, 128] ty #[.slice (some ⟨w.heap.size, o1, none⟩) l1 c1, .slice (some ⟨vb, 0, none⟩) 1 1]).run Try.prog W1 = .ok (goInt (Nat.min 1 l1 : Nat)) W2 := by
    rintro ty o1 l1 c1 rfl rfl
    rw [← hW2]
    refine run_copy_row W1 _ _ ty 28 w.heap.size (i * 1) (n + 1 - i) c1 ⟨vb, 0, none⟩ 1 1 vs hti Try.underlying128 (by rw [hsize, hl, show Nat.min 1 (n + 1 - i) = 1 from Nat.min_eq_left (by omega)]) ?_ ?_ ?_ h1
    · intro j u hj; rw [Addr.add_lit, Nat.zero_add, hvb1.cell]; simpa using hj
    · intro j hj; rw [r1.cell, Array.getElem?_eq_getElem (by rw [hs1]; omega)]; rfl
    · intro j hj; exact r1.frozen _
  obtain ⟨W3, hW3⟩ : ∃ W, W2.drew.setCells w.heap.size (i * 1 + 1) (xs.drop (i * 1)) = W := ⟨_, rfl⟩
  have r3 : RowAt W3 w.heap.size 28 (ovw (ovw cur1 (i * 1) vs) (i * 1 + 1) (xs.drop (i * 1))) := by rw [← hW3]; exact RowAt.sets (xs.drop (i * 1)) (w := W2.drew) _ r2
  have b3 : Below w.heap.size w W3 := by rw [← hW3]; exact sets_below (Nat.le_refl _) (xs.drop (i * 1)) (w := W2.drew) _ b2.drew
  have hcp2 : ∀ ty o1 l1 c1 o2 l2 c2, o1 = (i + 1) * 1 → l1 = n - i → o2 = i * 1 → l2 = n - i → (Builtin.copy_ #[128, 128] ty #[.slice (some ⟨w.heap.size, o1, none⟩) l1 c1, .slice (some ⟨g, o2, none⟩) l2 c2]).run Try.prog W2.drew = .ok (goInt (Nat.min l2 l1 : Nat)) W3 := by
    rintro ty o1 l1 c1 o2 l2 c2 rfl rfl rfl rfl
    rw [← hW3, show (i + 1) * 1 = i * 1 + 1 by omega]
    refine run_copy_row W2.drew _ _ ty 28 w.heap.size (i * 1 + 1) (n - i) c1 ⟨g, i * 1, none⟩ (n - i) c2 (xs.drop (i * 1)) hti Try.underlying128 (by rw [hsize, List.length_drop, hxl, show Nat.min (n - i) (n - i) = n - i from Nat.min_self _]; omega) ?_ ?_ ?_ (fun u hu => h2 u (List.mem_of_mem_drop hu))
    · intro j u hj; rw [Addr.add_lit]; show W2.cell? _ = _; rw [hrow2.cell, ← Array.getElem?_toList, hxs]; rwa [List.getElem?_drop] at hj
    · intro j hj
      rw [List.length_drop, hxl] at hj
      show (W2.cell? _).isSome = _
      rw [r2.cell, Array.getElem?_eq_getElem (by rw [ovw_size, hs1]; omega)]; rfl
    · intro j hj; exact r2.frozen _
  have hcm : C ≤ maxLen := hC2
  have hown := rowAt_own (base := base) (n := n + 1) (size := 1) (xs := xs.take (i * 1) ++ vs ++ xs.drop (i * 1)) hbase r3 hC1 hcm (by rw [ovw_size, ovw_size, hs1]) (by have := ovw_ins (cur := cur1) (s := 1) hl (show i * 1 ≤ xs.length by omega) (by omega) hg1; rw [show xs.length + 1 = (n + 1) * 1 by omega] at this; exact this)
  have HRUN := Lib.hid hrun
  have HC1 := Lib.hid hcp1
  have HC2 := Lib.hid hcp2
  have HO := Lib.hid hown
  have HB := Lib.hid b3
  have hC3 : (C : Int) ≤ 9223372036854775807 := by unfold maxLen at hcm; omega
  have hC4 : ¬ (C = i) := by omega
  have hC5 : ¬ (C = i + 1) := by omega
  have hC6 : (n : Int) + 1 ≤ (C : Int) := by omega
  have e1 : ((n : Int) + 1 - i) = ((n + 1 - i : Nat) : Int) := by omega
  have hi1 : ¬ ((i : Int) = (n : Int)) := by omega
  have hi2 : ¬ (n = i) := by omega
  have hi3 : (i : Int) ≤ (n : Int) := by omega
  have hi4 : (i : Int) + 1 ≤ (n : Int) := by omega
  have hn1 : (n : Int) ≤ 1000000 := by omega
  have hi5 : (0 : Int) ≤ (i : Int) + 1 := by omega
  have hw1 : IntKind.i64.wrap ((i : Int) + 1) = (i : Int) + 1 := by rw [IntKind.wrap_i64]; omega
  have ht1 : ((i : Int) + 1).toNat = i + 1 := by omega
  clear hrun hcp1 hcp2 hown b3 r1 r2 r3 b1 b2 hvb hvb1 hrow hrow1 hrow2 hcur hxs hg1 hs1 hcur1 hW1 hW2 hW3 hl h1 h2 hxl hC hC1 hC2 hcm hti hz hsize hby hzs hsz
  go_enter Try.func86, Try.ntmps86
  go_wp2_with (first | (at_builtin; refine Lib.wpList_append_run _ rfl _ _ _ _ rfl _ _ rfl rfl _ _ (HRUN.out _) ?_) | (refine wpList_copy_run rfl _ _ 128 128 rfl rfl rfl (HC1.out _ _ _ _ (by omega) (by omega)) ?_))
  refine wp_region_held_drew (S := fun w' => True) (by kernel_rfl) ?_ (fun hHeld => ?_); (focus (first | with_reducible exact True.intro | ((try dsimp only); and_intros <;> first | (go_simp; done) | (go_keep; done)))); (refine lexTk 0 (v := ?_) rfl hHeld ?_ (by kernel_rfl) (fun _ _ _ h => h) ?_ ?_; rotate_left 2; (focus rfl); (focus (intro w hSw; (try dsimp only at hSw); first | (go_simp; done) | (go_simp; with_reducible rfl)))); (try simp only [Act.put, List.setIfInBounds_toArray, List.set_cons_zero, List.set_cons_succ]); (refine lexTk 1 (v := ?_) rfl hHeld ?_ (by kernel_rfl) (fun _ _ _ h => h) ?_ ?_; rotate_left 2; (focus rfl); (focus (intro w hSw; (try dsimp only at hSw); first | (go_simp; done) | (go_simp; with_reducible rfl)))); (try simp only [Act.put, List.setIfInBounds_toArray, List.set_cons_zero, List.set_cons_succ]); (refine lexTk 2 (v := ?_) rfl hHeld ?_ (by kernel_rfl) (fun _ _ _ h => h) ?_ ?_; rotate_left 2; (focus rfl); (focus (intro w hSw; (try dsimp only at hSw); first | (go_simp; done) | (go_simp; with_reducible rfl)))); (try simp only [Act.put, List.setIfInBounds_toArray, List.set_cons_zero, List.set_cons_succ]); (refine lexTk 3 (v := ?_) rfl hHeld ?_ (by kernel_rfl) (fun _ _ _ h => h) ?_ ?_; rotate_left 2; (focus rfl); (focus (intro w hSw; (try dsimp only at hSw); first | (go_simp; done) | (go_simp; with_reducible rfl)))); (try simp only [Act.put, List.setIfInBounds_toArray, List.set_cons_zero, List.set_cons_succ]); (refine lexTk 4 (v := ?_) rfl hHeld ?_ (by kernel_rfl) (fun _ _ _ h => h) ?_ ?_; rotate_left 2; (focus rfl); (focus (intro w hSw; (try dsimp only at hSw); first | (go_simp; done) | (go_simp; with_reducible rfl)))); (try simp only [Act.put, List.setIfInBounds_toArray, List.set_cons_zero, List.set_cons_succ]); (refine lexTk 5 (v := ?_) rfl hHeld ?_ (by kernel_rfl) (fun _ _ _ h => h) ?_ ?_; rotate_left 2; (focus rfl); (focus (intro w hSw; (try dsimp only at hSw); first | (go_simp; done) | (go_simp; with_reducible rfl)))); (try simp only [Act.put, List.setIfInBounds_toArray, List.set_cons_zero, List.set_cons_succ]); (refine lexTk 6 (v := ?_) rfl hHeld ?_ (by kernel_rfl) (fun _ _ _ h => h) ?_ ?_; rotate_left 2; (focus rfl); (focus (intro w hSw; (try dsimp only at hSw); first | (go_simp; done) | (go_simp; with_reducible rfl)))); (try simp only [Act.put, List.setIfInBounds_toArray, List.set_cons_zero, List.set_cons_succ]); (refine lexTk 7 (v := ?_) rfl hHeld ?_ (by kernel_rfl) (fun _ _ _ h => h) ?_ ?_; rotate_left 2; (focus rfl); (focus (intro w hSw; (try dsimp only at hSw); first | (go_simp; done) | (go_simp; with_reducible rfl)))); (try simp only [Act.put, List.setIfInBounds_toArray, List.set_cons_zero, List.set_cons_succ]); refine lexHv 8 rfl ?_ (by kernel_rfl); (intro K hK); ((refine copy_step rfl _ _ 128 128 rfl rfl rfl (HC2.out _ _ _ _ _ _ _ (by omega) (by omega) (by omega) (by omega)) ?_)); refine hK.out _ _ ?_ ?_; (focus (first | with_reducible exact True.intro | ((try dsimp only); and_intros <;> first | (go_simp; done) | (go_keep; done)))); (clear hHeld hK K); (intro hHeld); (try simp only [Act.put, List.setIfInBounds_toArray, List.set_cons_zero, List.set_cons_succ]); refine wpAnyH_done (by kernel_rfl) ?_ _
  go_wp2_with fail
  go_ret
  exact ⟨_, rfl, HO.out, HB.out, rfl⟩

set_option maxRecDepth 100000 in
set_option maxHeartbeats 4000000 in
/-- There is room: in place. -/
theorem insB_shift (base g n i cap : Nat) (xs : List Value) (cur : Array Value) (w : World) (vb : Nat) (vs : List Value) (hb : base ≤ g) (hrow : RowAt w g 28 cur) (hcur : cur.size = cap * 1) (hxs : cur.toList.take (n * 1) = xs) (hi : i < n) (hn : n ≤ 1000000)
    (hcap : n + 1 ≤ cap) (hcm : cap ≤ maxLen) (hne : vb ≠ g)
    (hl : vs.length = 1) (hvb : RowAt w vb 28 vs.toArray) (h1 : ∀ u ∈ vs, u.oneCell' = true) (h2 : ∀ u ∈ xs, u.oneCell' = true) :
    Calls Try.prog 86 #[.slice (some ⟨g, 0, none⟩) n cap, .int .i64 i, .slice (some ⟨vb, 0, none⟩) 1 1] w fun e w' => ∃ v', e = .returned v' ∧ w'.ownsRow base 28 1 v' (n + 1) (xs.take (i * 1) ++ vs ++ xs.drop (i * 1)) ∧ w.grownBy w' (some g) ∧ v'.ownBlock = some g := by
  obtain ⟨ti, hti, _, hsize, _⟩ := eiRow
  have hxl : xs.length = n * 1 := by rw [← hxs, List.length_take, Array.length_toList, hcur]; omega
  have hget : ∀ j, j < n * 1 → cur[j]? = xs[j]? := fun j hj => by rw [← hxs, List.getElem?_take, if_pos hj, Array.getElem?_toList]
  obtain ⟨W2, hW2⟩ : ∃ W, w.drew.setCells g (i * 1 + 1) (xs.drop (i * 1)) = W := ⟨_, rfl⟩
  have r2 : RowAt W2 g 28 (ovw cur (i * 1 + 1) (xs.drop (i * 1))) := by rw [← hW2]; exact RowAt.sets (xs.drop (i * 1)) (w := w.drew) _ hrow
  have k2 : ∀ q, q ≠ g → W2.heap[q]? = w.heap[q]? := fun q hq => by rw [← hW2]; exact sets_other (xs.drop (i * 1)) w.drew _ hq
  have z2 : W2.heap.size = w.heap.size := by rw [← hW2]; exact sets_size (xs.drop (i * 1)) w.drew _
  have o2 : w.grownBy W2 (some g) := by
    have hB := sets_below (B := 0) (Nat.zero_le g) (xs.drop (i * 1)) (i * 1 + 1) ((Below.refl 0 w).drew)
    rw [hW2] at hB
    exact ⟨hB.os, hB.tape, hB.output, hB.size, fun q _ hq => k2 q (fun h => hq (by rw [h]))⟩
  have hvb2 : RowAt W2 vb 28 vs.toArray := (k2 vb hne).trans hvb
  have hcp1 : ∀ ty o1 l1 c1 o2 l2 c2, o1 = (i + 1) * 1 → l1 = n - i → o2 = i * 1 → l2 = n + 1 - i → (Builtin.copy_ #[128, 128] ty #[.slice (some ⟨g, o1, none⟩) l1 c1, .slice (some ⟨g, o2, none⟩) l2 c2]).run Try.prog w.drew = .ok (goInt (Nat.min l2 l1 : Nat)) W2 := by
    rintro ty o1 l1 c1 o2 l2 c2 rfl rfl rfl rfl
    rw [← hW2, show (i + 1) * 1 = i * 1 + 1 by omega]
    refine run_copy_row w.drew _ _ ty 28 g (i * 1 + 1) (n - i) c1 ⟨g, i * 1, none⟩ (n + 1 - i) c2 (xs.drop (i * 1)) hti Try.underlying128 (by rw [hsize, List.length_drop, hxl, show Nat.min (n + 1 - i) (n - i) = n - i from Nat.min_eq_right (by omega)]; omega) ?_ ?_ ?_ (fun u hu => h2 u (List.mem_of_mem_drop hu))
    · intro j u hj
      have hjl : j < n * 1 - i * 1 := by have := (List.getElem?_eq_some_iff.1 hj).1; rw [List.length_drop, hxl] at this; exact this
      rw [Addr.add_lit]; show w.cell? _ = _; rw [hrow.cell, hget _ (by omega)]; rwa [List.getElem?_drop] at hj
    · intro j hj
      rw [List.length_drop, hxl] at hj
      show (w.cell? _).isSome = _
      rw [hrow.cell, Array.getElem?_eq_getElem (by rw [hcur]; omega)]; rfl
    · intro j hj; exact hrow.frozen _
  obtain ⟨W3, hW3⟩ : ∃ W, W2.setCells g (i * 1) vs = W := ⟨_, rfl⟩
  have r3 : RowAt W3 g 28 (ovw (ovw cur (i * 1 + 1) (xs.drop (i * 1))) (i * 1) vs) := by rw [← hW3]; exact r2.sets vs _
  have o3 : w.grownBy W3 (some g) := by
    have hB := sets_below (B := 0) (Nat.zero_le g) vs (i * 1) (Below.refl 0 W2)
    rw [hW3] at hB
    exact ⟨hB.os.trans o2.os, hB.tape.trans o2.tape, hB.output.trans o2.output, by have := hB.size; omega, fun q hq hne => by
      rw [← hW3]; exact (sets_other vs W2 _ (fun h => hne (by rw [h]))).trans (k2 q (fun h => hne (by rw [h])))⟩
  have hcp2 : ∀ ty o1 l1 c1, o1 = i * 1 → l1 = n + 1 - i → (Builtin.copy_ #[128, 128] ty #[.slice (some ⟨g, o1, none⟩) l1 c1, .slice (some ⟨vb, 0, none⟩) 1 1]).run Try.prog W2 = .ok (goInt (Nat.min 1 l1 : Nat)) W3 := by
    rintro ty o1 l1 c1 rfl rfl
    rw [← hW3]
    refine run_copy_row W2 _ _ ty 28 g (i * 1) (n + 1 - i) c1 ⟨vb, 0, none⟩ 1 1 vs hti Try.underlying128 (by rw [hsize, hl, show Nat.min 1 (n + 1 - i) = 1 from Nat.min_eq_left (by omega)]) ?_ ?_ ?_ h1
    · intro j u hj; rw [Addr.add_lit, Nat.zero_add, hvb2.cell]; simpa using hj
    · intro j hj; rw [r2.cell, Array.getElem?_eq_getElem (by rw [ovw_size, hcur]; omega)]; rfl
    · intro j hj; exact r2.frozen _
  have hown := rowAt_own (base := base) (n := n + 1) (size := 1) (xs := xs.take (i * 1) ++ vs ++ xs.drop (i * 1)) hb r3 hcap hcm (by rw [ovw_size, ovw_size, hcur]) (by have := ovw_ins2 (cur := cur) (s := 1) hl (show i * 1 ≤ xs.length by omega) (by omega) (fun j hj => hget j (by omega)); rw [show xs.length + 1 = (n + 1) * 1 by omega] at this; exact this)
  have hov : ∀ o1 lb cb, (callFunc 151 #[.slice (some ⟨vb, 0, none⟩) 1 1, .slice (some ⟨g, o1, none⟩) lb cb]).run Try.prog w = .ok (.value (.bool false)) w := fun o1 lb cb =>
    insB_over w ⟨vb, 0, none⟩ ⟨g, o1, none⟩ 1 1 lb cb hne _ _ _ _ hvb.shape hrow.shape (by omega) (hvb.frozen _) (hvb.frozen _)
  have HC1 := Lib.hid hcp1
  have HC2 := Lib.hid hcp2
  have HO := Lib.hid hown
  have HB := Lib.hid o3
  have hC3 : (cap : Int) ≤ 9223372036854775807 := by unfold maxLen at hcm; omega
  have hC4 : ¬ (cap = i) := by omega
  have hC5 : ¬ (cap = i + 1) := by omega
  have hC6 : (n : Int) + 1 ≤ (cap : Int) := by omega
  have hi1 : ¬ ((i : Int) = (n : Int)) := by omega
  have hi3 : (i : Int) ≤ (n : Int) := by omega
  have hi4 : (i : Int) + 1 ≤ (n : Int) + 1 := by omega
  have hi6 : (i : Int) ≤ (n : Int) + 1 := by omega
  have hn1 : (n : Int) ≤ 1000000 := by omega
  have hi5 : (0 : Int) ≤ (i : Int) + 1 := by omega
  have hn5 : (0 : Int) ≤ (n : Int) + 1 := by omega
  have hw1 : IntKind.i64.wrap ((i : Int) + 1) = (i : Int) + 1 := by rw [IntKind.wrap_i64]; omega
  have ht1 : ((i : Int) + 1).toNat = i + 1 := by omega
  have ht2 : ((n : Int) + 1).toNat = n + 1 := by omega
  clear hcp1 hcp2 hown r2 r3 k2 z2 o2 o3 hvb hvb2 hrow hcur hxs hW2 hW3 hl h1 h2 hxl hget hcm hti hsize hb
  go_enter Try.func86, Try.ntmps86
  go_wp2_with (simp only [hov])
  refine wp_region_held_drew (S := fun w' => True) (by kernel_rfl) ?_ (fun hHeld => ?_); (focus (first | with_reducible exact True.intro | ((try dsimp only); and_intros <;> first | (go_simp; done) | (go_keep; done)))); (refine lexTk 0 (v := ?_) rfl hHeld ?_ (by kernel_rfl) (fun _ _ _ h => h) ?_ ?_; rotate_left 2; (focus rfl); (focus (intro w hSw; (try dsimp only at hSw); first | (go_simp; done) | (go_simp; with_reducible rfl)))); (try simp only [Act.put, List.setIfInBounds_toArray, List.set_cons_zero, List.set_cons_succ]); (refine lexTk 1 (v := ?_) rfl hHeld ?_ (by kernel_rfl) (fun _ _ _ h => h) ?_ ?_; rotate_left 2; (focus rfl); (focus (intro w hSw; (try dsimp only at hSw); first | (go_simp; done) | (go_simp; with_reducible rfl)))); (try simp only [Act.put, List.setIfInBounds_toArray, List.set_cons_zero, List.set_cons_succ]); (refine lexTk 2 (v := ?_) rfl hHeld ?_ (by kernel_rfl) (fun _ _ _ h => h) ?_ ?_; rotate_left 2; (focus rfl); (focus (intro w hSw; (try dsimp only at hSw); first | (go_simp; done) | (go_simp; with_reducible rfl)))); (try simp only [Act.put, List.setIfInBounds_toArray, List.set_cons_zero, List.set_cons_succ]); (refine lexTk 3 (v := ?_) rfl hHeld ?_ (by kernel_rfl) (fun _ _ _ h => h) ?_ ?_; rotate_left 2; (focus rfl); (focus (intro w hSw; (try dsimp only at hSw); first | (go_simp; done) | (go_simp; with_reducible rfl)))); (try simp only [Act.put, List.setIfInBounds_toArray, List.set_cons_zero, List.set_cons_succ]); (refine lexTk 4 (v := ?_) rfl hHeld ?_ (by kernel_rfl) (fun _ _ _ h => h) ?_ ?_; rotate_left 2; (focus rfl); (focus (intro w hSw; (try dsimp only at hSw); first | (go_simp; done) | (go_simp; with_reducible rfl)))); (try simp only [Act.put, List.setIfInBounds_toArray, List.set_cons_zero, List.set_cons_succ]); (refine lexTk 5 (v := ?_) rfl hHeld ?_ (by kernel_rfl) (fun _ _ _ h => h) ?_ ?_; rotate_left 2; (focus rfl); (focus (intro w hSw; (try dsimp only at hSw); first | (go_simp; done) | (go_simp; with_reducible rfl)))); (try simp only [Act.put, List.setIfInBounds_toArray, List.set_cons_zero, List.set_cons_succ]); (refine lexTk 6 (v := ?_) rfl hHeld ?_ (by kernel_rfl) (fun _ _ _ h => h) ?_ ?_; rotate_left 2; (focus rfl); (focus (intro w hSw; (try dsimp only at hSw); first | (go_simp; done) | (go_simp; with_reducible rfl)))); (try simp only [Act.put, List.setIfInBounds_toArray, List.set_cons_zero, List.set_cons_succ]); (refine lexTk 7 (v := ?_) rfl hHeld ?_ (by kernel_rfl) (fun _ _ _ h => h) ?_ ?_; rotate_left 2; (focus rfl); (focus (intro w hSw; (try dsimp only at hSw); first | (go_simp; done) | (go_simp; with_reducible rfl)))); (try simp only [Act.put, List.setIfInBounds_toArray, List.set_cons_zero, List.set_cons_succ]); refine lexHv 8 rfl ?_ (by kernel_rfl); (intro K hK); ((refine copy_step rfl _ _ 128 128 rfl rfl rfl (HC1.out _ _ _ _ _ _ _ (by omega) (by omega) (by omega) (by omega)) ?_)); refine hK.out _ _ ?_ ?_; (focus (first | with_reducible exact True.intro | ((try dsimp only); and_intros <;> first | (go_simp; done) | (go_keep; done)))); (clear hHeld hK K); (intro hHeld); (try simp only [Act.put, List.setIfInBounds_toArray, List.set_cons_zero, List.set_cons_succ]); refine wpAnyH_done (by kernel_rfl) ?_ _
  go_wp2_with (refine wpList_copy_run rfl _ _ 128 128 rfl rfl rfl (HC2.out _ _ _ _ (by omega) (by omega)) ?_)
  go_ret
  exact ⟨_, rfl, HO.out, HB.out, rfl⟩

/-- slices.Insert of one element into a row of the call's own. -/
theorem insB_any (base : Nat) (v : Value) (n i : Nat) (xs : List Value) (w : World) (vb : Nat) (vs : List Value) (hown : w.ownsRow base 28 1 v n xs) (hi : i ≤ n) (hn : n ≤ 1000000)
    (hl : vs.length = 1) (hvb : RowAt w vb 28 vs.toArray) (hne : v.ownBlock ≠ some vb) (h1 : ∀ u ∈ vs, u.oneCell' = true) (h2 : ∀ u ∈ xs, u.oneCell' = true) (hbase : base ≤ w.heap.size) :
    Calls Try.prog 86 #[v, .int .i64 i, .slice (some ⟨vb, 0, none⟩) 1 1] w fun e w' => ∃ v', e = .returned v' ∧ w'.ownsRow base 28 1 v' (n + 1) (xs.take (i * 1) ++ vs ++ xs.drop (i * 1)) ∧ w.grownBy w' v.ownBlock ∧ (v'.ownBlock = v.ownBlock ∨ v'.ownBlock = some w.heap.size) := by
  have hxl := hown.1
  by_cases hin : i = n
  · subst hin
    have := insB_end base v i xs w vb vs hown hn hl (fun j u hj => by rw [hvb.cell]; simpa using hj) h1 hbase
    rw [List.take_of_length_le (by omega), List.drop_of_length_le (by omega), List.append_nil]
    exact this
  · rcases hown.2 with ⟨_, h0⟩ | ⟨g, cap, cur, rfl, hb, hrow, hc1, hcm, hsz, htk⟩
    · omega
    · by_cases hroom : n + 1 ≤ cap
      · refine (insB_shift base g n i cap xs cur w vb vs hb hrow hsz htk (by omega) hn hroom hcm (fun h => hne (by rw [h]; rfl)) hl hvb h1 h2).mono ?_
        rintro e w' ⟨v', rfl, k1, k2, k3⟩
        exact ⟨v', rfl, k1, k2, .inl k3⟩
      · obtain rfl : cap = n := by omega
        refine (insB_grow base g cap i xs cur w vb vs hrow hsz (by rw [← htk]; exact (List.take_of_length_le (by rw [Array.length_toList, hsz]; exact Nat.le_refl _)).symm) (by omega) hn hl hvb h1 h2 hbase).mono ?_
        rintro e w' ⟨v', rfl, k1, k2, k3⟩
        exact ⟨v', rfl, k1, ⟨k2.os, k2.tape, k2.output, k2.size, fun q hq _ => k2.block q hq⟩, .inr k3⟩
end Go.Proofs.Ytjmjnkilgoelbaa
