/-
  RowS: slices.Replace in the middle of a row of integers of the call's own.
-/
import Derived.Test.YtjmjnkilgoelbaaKRowR
import Derived.Test.YtjmjnkilgoelbaaJ0a
namespace Go.Proofs.Ytjmjnkilgoelbaa
open Go.RowKit

set_option maxRecDepth 100000 in
set_option maxHeartbeats 4000000 in
/-- slices.Replace where there is no room: a new row. -/
theorem repI_grow (base g n i j cap : Nat) (xs : List Value) (cur : Array Value) (w : World) (b o m c : Nat) (ys : List Value) (hrow : RowAt w g 3 cur) (hcur : cur.size = cap) (hxs : cur.toList.take n = xs) (hij : i < j) (hj : j < n) (hnc : n ≤ cap) (hcm : cap ≤ maxLen) (hn : n ≤ 1000000)
    (hl : ys.length = m) (hm : m ≤ 1000000) (hys : ∀ k u, ys[k]? = some u → w.cell? ⟨b, o + k, none⟩ = some u) (h1 : ∀ u ∈ ys, u.oneCell' = true) (h2 : ∀ u ∈ xs, u.oneCell' = true) (hbase : base ≤ w.heap.size) (T : Nat) (hT : T = i + m + (n - j)) (hroom : cap < T) (hbl : 0 < m → b < w.heap.size) :
    Calls Try.prog 143 #[.slice (some ⟨g, 0, none⟩) n cap, .int .i64 i, .int .i64 j, .slice (some ⟨b, o, none⟩) m c] w fun e w' => ∃ v', e = .returned v' ∧ w'.ownsRow base 3 1 v' T (xs.take i ++ ys ++ xs.drop j) ∧ w.grownBy w' (some g) ∧ (v'.ownBlock = some g ∨ v'.ownBlock = some w.heap.size) := by
  have hxl : xs.length = n := by rw [← hxs, List.length_take, Array.length_toList, hcur]; omega
  have hget : ∀ k, k < n → cur[k]? = xs[k]? := fun k hk => by rw [← hxs, List.getElem?_take, if_pos hk, Array.getElem?_toList]
  obtain ⟨ti, hti, hz0, hsize, hby, hzs0, hsz, _⟩ := eiInt
  obtain ⟨z, hz, hzs⟩ : ∃ z, ti.zero = some z ∧ z.cells.size = 1 := ⟨_, hz0, hzs0⟩
  clear hz0 hzs0
  obtain ⟨C, hC⟩ : ∃ C, grownCap w.drew (i + (T - i)) cap 3 = C := ⟨_, rfl⟩
  have hC1 := grownCap_ge w.drew (i + (T - i)) cap 3
  have hC2 := grownCap_le_maxLen w.drew (i + (T - i)) cap 3 (by unfold maxLen; omega)
  have hrun := fun ty => run_append_make (P := Try.prog) w.drew 61 3 ty 3 ti z .i64 .i64 Try.underlying61 Try.underlying3 hti hz ⟨g, 0, none⟩ i cap (xs.take i) (by rw [List.length_take, hsize]; omega)
    (fun k u hk => by
      rw [Addr.add_lit, Nat.zero_add]
      show w.cell? _ = _
      rw [hrow.cell k]
      have hkl := (List.getElem?_eq_some_iff.1 hk).1
      rw [List.length_take] at hkl
      rw [hget k (by omega)]
      rw [List.getElem?_take, if_pos (by omega)] at hk
      exact hk) (T - i) (by omega) (by rw [hsize]; omega) (by omega) (by omega) (by rw [hby]; omega)
  rw [hC] at hrun hC1 hC2
  rw [show i + (T - i) = T by omega] at hrun hC1
  obtain ⟨cur1, hcur1⟩ : ∃ c, (xs.take i).toArray ++ Builtin.zeroCells z.cells (T - i) ++ Builtin.zeroCells z.cells (C - T) = c := ⟨_, rfl⟩
  rw [hcur1] at hrun
  have hs1 : cur1.size = C := by
    rw [← hcur1]
    simp only [Array.size_append, List.size_toArray, size_zeroCells, hzs, List.length_take, hxl]
    omega
  have hg1 : ∀ k, k < i → cur1[k]? = xs[k]? := fun k hk => by
    have ha : (xs.take i).length = i := by rw [List.length_take, hxl]; omega
    rw [← hcur1, Array.append_assoc, Array.getElem?_append_left (by simp; omega), ← Array.getElem?_toList, List.getElem?_take, if_pos hk]
  obtain ⟨W1, hW1⟩ : ∃ W, w.drew.drew.alloc (.cells cur1 3) = W := ⟨_, rfl⟩
  rw [hW1] at hrun
  have r1 : RowAt W1 w.heap.size 3 cur1 := by rw [← hW1]; exact heap_alloc_new w.drew.drew _
  have b1 : Below w.heap.size w W1 := by rw [← hW1]; exact (Below.refl _ _).drew.drew.alloc (Nat.le_refl _) _
  have hrow1 : RowAt W1 g 3 cur := (b1.block g hrow.lt).trans hrow
  have hys1 : ∀ k u, ys[k]? = some u → W1.cell? ⟨b, o + k, none⟩ = some u := fun k u hk => (b1.cell (p := ⟨b, o + k, none⟩) (World.block_lt_of_cell? _ _ (hys k u hk))).trans (hys k u hk)
  obtain ⟨W2, hW2⟩ : ∃ W, W1.setCells w.heap.size i ys = W := ⟨_, rfl⟩
  have r2 : RowAt W2 w.heap.size 3 (ovw cur1 i ys) := by rw [← hW2]; exact r1.sets ys _
  have b2 : Below w.heap.size w W2 := by rw [← hW2]; exact sets_below (Nat.le_refl _) ys _ b1
  have hrow2 : RowAt W2 g 3 cur := (b2.block g hrow.lt).trans hrow
  have hcp1 : ∀ ty o1 l1 c1, o1 = i → l1 = T - i → (Builtin.copy_ #[61, 61] ty #[.slice (some ⟨w.heap.size, o1, none⟩) l1 c1, .slice (some ⟨b, o, none⟩) m c]).run Try.prog W1 = .ok (goInt (Nat.min m l1 : Nat)) W2 := by
    rintro ty o1 l1 c1 rfl rfl
    rw [← hW2]
    refine run_copy_row W1 _ _ ty 3 w.heap.size o1 (T - o1) c1 ⟨b, o, none⟩ m c ys hti Try.underlying61 (by rw [hsize, hl, show Nat.min m (T - o1) = m from Nat.min_eq_left (by omega)]; omega) ?_ ?_ ?_ h1
    · intro k u hk; rw [Addr.add_lit]; exact hys1 k u hk
    · intro k hk; rw [r1.cell, Array.getElem?_eq_getElem (by rw [hs1]; omega)]; rfl
    · intro k hk; exact r1.frozen _
  obtain ⟨W3, hW3⟩ : ∃ W, W2.drew.setCells w.heap.size (i + m) (xs.drop j) = W := ⟨_, rfl⟩
  have r3 : RowAt W3 w.heap.size 3 (ovw (ovw cur1 i ys) (i + m) (xs.drop j)) := by rw [← hW3]; exact RowAt.sets (xs.drop j) (w := W2.drew) _ r2
  have b3 : Below w.heap.size w W3 := by rw [← hW3]; exact sets_below (Nat.le_refl _) (xs.drop j) (w := W2.drew) _ b2.drew
  have hcp2 : ∀ ty o1 l1 c1 o2 l2 c2, o1 = i + m → l1 = T - (i + m) → o2 = j → l2 = n - j → (Builtin.copy_ #[61, 61] ty #[.slice (some ⟨w.heap.size, o1, none⟩) l1 c1, .slice (some ⟨g, o2, none⟩) l2 c2]).run Try.prog W2.drew = .ok (goInt (Nat.min l2 l1 : Nat)) W3 := by
    rintro ty o1 l1 c1 o2 l2 c2 rfl rfl rfl rfl
    rw [← hW3]
    refine run_copy_row W2.drew _ _ ty 3 w.heap.size (i + m) (T - (i + m)) c1 ⟨g, o2, none⟩ (n - o2) c2 (xs.drop o2) hti Try.underlying61 (by rw [hsize, List.length_drop, hxl, show Nat.min (n - o2) (T - (i + m)) = n - o2 from Nat.min_eq_left (by omega)]; omega) ?_ ?_ ?_ (fun u hu => h2 u (List.mem_of_mem_drop hu))
    · intro k u hk
      have hkl : k < n - o2 := by have := (List.getElem?_eq_some_iff.1 hk).1; rw [List.length_drop, hxl] at this; exact this
      rw [Addr.add_lit]; show W2.cell? _ = _; rw [hrow2.cell, hget _ (by omega)]; rwa [List.getElem?_drop] at hk
    · intro k hk
      rw [List.length_drop, hxl] at hk
      show (W2.cell? _).isSome = _
      rw [r2.cell, Array.getElem?_eq_getElem (by rw [ovw_size, hs1]; omega)]; rfl
    · intro k hk; exact r2.frozen _
  have hown := rowAt_own (base := base) (n := T) (size := 1) (xs := xs.take i ++ ys ++ xs.drop j) hbase r3 hC1 hC2 (by rw [ovw_size, ovw_size, hs1, Nat.mul_one]) (by rw [Nat.mul_one, hT]; exact ovw_rep hxl hl (by omega) (by omega) (by rw [hs1]; omega) hg1)
  have HRUN := Lib.hid hrun
  have HC1 := Lib.hid hcp1
  have HC2 := Lib.hid hcp2
  have HO := Lib.hid hown
  have HB := Lib.hid b3
  have hCT : (T : Int) ≤ (C : Int) := by omega
  have hCM : (C : Int) ≤ 9223372036854775807 := by unfold maxLen at hC2; omega
  have hCi : ¬ C = i := by omega
  have hCm : ¬ C = i + m := by omega
  have hTc : (cap : Int) < (T : Int) := by omega
  have hTi : (i : Int) ≤ (T : Int) := by omega
  have hTm : (i : Int) + (m : Int) ≤ (T : Int) := by omega
  have hTb : (T : Int) ≤ 3000000 := by omega
  have hw2 : IntKind.i64.wrap ((i : Int) + (m : Int) + ((n : Int) - (j : Int))) = (T : Int) := by rw [IntKind.wrap_i64]; omega
  have hw4 : IntKind.i64.wrap (T : Int) = (T : Int) := by rw [IntKind.wrap_i64]; omega
  have hw3 : IntKind.i64.wrap ((T : Int) - (i : Int)) = ((T - i : Nat) : Int) := by rw [IntKind.wrap_i64]; omega
  have hcm2 : (cap : Int) ≤ 9223372036854775807 := by unfold maxLen at hcm; omega
  have hcn : (n : Int) ≤ (cap : Int) := by omega
  have hin : (i : Int) ≤ (n : Int) := by omega
  have hic : (i : Int) ≤ (cap : Int) := by omega
  have hij1 : (i : Int) ≤ (j : Int) := by omega
  have hij2 : ¬ (i : Int) = (j : Int) := by omega
  have hij3 : ¬ i = j := by omega
  have hjn1 : (j : Int) ≤ (n : Int) := by omega
  have hjn2 : ¬ (j : Int) = (n : Int) := by omega
  have hjn3 : ¬ j = n := by omega
  have hjc : (j : Int) ≤ (cap : Int) := by omega
  have hci : ¬ cap = i := by omega
  have hcj : ¬ cap = j := by omega
  have hmb : (m : Int) ≤ 1000000 := by omega
  have hnb : (n : Int) ≤ 1000000 := by omega
  have hw1 : IntKind.i64.wrap ((i : Int) + (m : Int)) = (i : Int) + (m : Int) := by rw [IntKind.wrap_i64]; omega
  have hk1 : ((i : Int) + (m : Int)).toNat = i + m := by omega
  have hk2 : (0 : Int) ≤ (i : Int) + (m : Int) := by omega
  have hd1 : ((n - j : Nat) : Int) = (n : Int) - (j : Int) := by omega
  clear hrun hcp1 hcp2 hown b3 r1 r2 r3 b1 b2 hrow hrow1 hrow2 hcur hxs hg1 hs1 hcur1 hW1 hW2 hW3 hl h1 h2 hxl hC hC1 hC2 hcm hti hz hsize hby hzs hsz hget hys hys1 hbl hT hroom hbase
  go_enter Try.func143, Try.ntmps143
  go_wp2_with fail
  refine wp_region_held_drew (S := fun w' => True) (by kernel_rfl) ?_ (fun hHeld => ?_); (focus (first | with_reducible exact True.intro | ((try dsimp only); and_intros <;> first | (go_simp; done) | (go_keep; done)))); (refine lexTk 0 (v := ?_) rfl hHeld ?_ (by kernel_rfl) (fun _ _ _ h => h) ?_ ?_; rotate_left 2; (focus rfl); (focus (intro w hSw; (try dsimp only at hSw); first | (go_simp; done) | (go_simp; with_reducible rfl)))); (try simp only [Act.put, List.setIfInBounds_toArray, List.set_cons_zero, List.set_cons_succ]); (refine lexTk 1 (v := ?_) rfl hHeld ?_ (by kernel_rfl) (fun _ _ _ h => h) ?_ ?_; rotate_left 2; (focus rfl); (focus (intro w hSw; (try dsimp only at hSw); first | (go_simp; done) | (go_simp; with_reducible rfl)))); (try simp only [Act.put, List.setIfInBounds_toArray, List.set_cons_zero, List.set_cons_succ]); (refine lexTk 2 (v := ?_) rfl hHeld ?_ (by kernel_rfl) (fun _ _ _ h => h) ?_ ?_; rotate_left 2; (focus rfl); (focus (intro w hSw; (try dsimp only at hSw); first | (go_simp; done) | (go_simp; with_reducible rfl)))); (try simp only [Act.put, List.setIfInBounds_toArray, List.set_cons_zero, List.set_cons_succ]); (refine lexTk 3 (v := ?_) rfl hHeld ?_ (by kernel_rfl) (fun _ _ _ h => h) ?_ ?_; rotate_left 2; (focus rfl); (focus (intro w hSw; (try dsimp only at hSw); first | (go_simp; done) | (go_simp; with_reducible rfl)))); (try simp only [Act.put, List.setIfInBounds_toArray, List.set_cons_zero, List.set_cons_succ]); (refine lexTk 4 (v := ?_) rfl hHeld ?_ (by kernel_rfl) (fun _ _ _ h => h) ?_ ?_; rotate_left 2; (focus rfl); (focus (intro w hSw; (try dsimp only at hSw); first | (go_simp; done) | (go_simp; with_reducible rfl)))); (try simp only [Act.put, List.setIfInBounds_toArray, List.set_cons_zero, List.set_cons_succ]); (refine lexTk 5 (v := ?_) rfl hHeld ?_ (by kernel_rfl) (fun _ _ _ h => h) ?_ ?_; rotate_left 2; (focus rfl); (focus (intro w hSw; (try dsimp only at hSw); first | (go_simp; done) | (go_simp; with_reducible rfl)))); (try simp only [Act.put, List.setIfInBounds_toArray, List.set_cons_zero, List.set_cons_succ]); (refine lexTk 6 (v := ?_) rfl hHeld ?_ (by kernel_rfl) (fun _ _ _ h => h) ?_ ?_; rotate_left 2; (focus rfl); (focus (intro w hSw; (try dsimp only at hSw); first | (go_simp; done) | (go_simp; with_reducible rfl)))); (try simp only [Act.put, List.setIfInBounds_toArray, List.set_cons_zero, List.set_cons_succ]); (refine lexTk 7 (v := ?_) rfl hHeld ?_ (by kernel_rfl) (fun _ _ _ h => h) ?_ ?_; rotate_left 2; (focus rfl); (focus (intro w hSw; (try dsimp only at hSw); first | (go_simp; done) | (go_simp; with_reducible rfl)))); (try simp only [Act.put, List.setIfInBounds_toArray, List.set_cons_zero, List.set_cons_succ]); (refine lexTk 8 (v := ?_) rfl hHeld ?_ (by kernel_rfl) (fun _ _ _ h => h) ?_ ?_; rotate_left 2; (focus rfl); (focus (intro w hSw; (try dsimp only at hSw); first | (go_simp; done) | (go_simp; with_reducible rfl)))); (try simp only [Act.put, List.setIfInBounds_toArray, List.set_cons_zero, List.set_cons_succ]); (refine lexTk 9 (v := ?_) rfl hHeld ?_ (by kernel_rfl) (fun _ _ _ h => h) ?_ ?_; rotate_left 2; (focus rfl); (focus (intro w hSw; (try dsimp only at hSw); first | (go_simp; done) | (go_simp; with_reducible rfl)))); (try simp only [Act.put, List.setIfInBounds_toArray, List.set_cons_zero, List.set_cons_succ]); (refine lexTk 10 (v := ?_) rfl hHeld ?_ (by kernel_rfl) (fun _ _ _ h => h) ?_ ?_; rotate_left 2; (focus rfl); (focus (intro w hSw; (try dsimp only at hSw); first | (go_simp; done) | (go_simp; with_reducible rfl)))); (try simp only [Act.put, List.setIfInBounds_toArray, List.set_cons_zero, List.set_cons_succ]); (refine lexTk 11 (v := ?_) rfl hHeld ?_ (by kernel_rfl) (fun _ _ _ h => h) ?_ ?_; rotate_left 2; (focus rfl); (focus (intro w hSw; (try dsimp only at hSw); first | (go_simp; done) | (go_simp; with_reducible rfl)))); (try simp only [Act.put, List.setIfInBounds_toArray, List.set_cons_zero, List.set_cons_succ]); (refine lexTk 12 (v := ?_) rfl hHeld ?_ (by kernel_rfl) (fun _ _ _ h => h) ?_ ?_; rotate_left 2; (focus rfl); (focus (intro w hSw; (try dsimp only at hSw); first | (go_simp; done) | (go_simp; with_reducible rfl)))); (try simp only [Act.put, List.setIfInBounds_toArray, List.set_cons_zero, List.set_cons_succ]); refine wpAnyH_done (by kernel_rfl) ?_ _
  go_wp2_with (first | (at_builtin; go_must (refine Lib.wpList_append_run _ rfl _ _ _ _ rfl _ _ rfl rfl _ _ (HRUN.out _) ?_)) | (refine wpList_copy_run rfl _ _ 61 61 rfl rfl rfl (HC1.out _ _ _ _ (by omega) (by omega)) ?_))
  refine wp_region_held_drew (S := fun w' => True) (by kernel_rfl) ?_ (fun hHeld => ?_); (focus (first | with_reducible exact True.intro | ((try dsimp only); and_intros <;> first | (go_simp; done) | (go_keep; done)))); (refine lexTk 0 (v := ?_) rfl hHeld ?_ (by kernel_rfl) (fun _ _ _ h => h) ?_ ?_; rotate_left 2; (focus rfl); (focus (intro w hSw; (try dsimp only at hSw); first | (go_simp; done) | (go_simp; with_reducible rfl)))); (try simp only [Act.put, List.setIfInBounds_toArray, List.set_cons_zero, List.set_cons_succ]); (refine lexTk 1 (v := ?_) rfl hHeld ?_ (by kernel_rfl) (fun _ _ _ h => h) ?_ ?_; rotate_left 2; (focus rfl); (focus (intro w hSw; (try dsimp only at hSw); first | (go_simp; done) | (go_simp; with_reducible rfl)))); (try simp only [Act.put, List.setIfInBounds_toArray, List.set_cons_zero, List.set_cons_succ]); (refine lexTk 2 (v := ?_) rfl hHeld ?_ (by kernel_rfl) (fun _ _ _ h => h) ?_ ?_; rotate_left 2; (focus rfl); (focus (intro w hSw; (try dsimp only at hSw); first | (go_simp; done) | (go_simp; with_reducible rfl)))); (try simp only [Act.put, List.setIfInBounds_toArray, List.set_cons_zero, List.set_cons_succ]); (refine lexTk 3 (v := ?_) rfl hHeld ?_ (by kernel_rfl) (fun _ _ _ h => h) ?_ ?_; rotate_left 2; (focus rfl); (focus (intro w hSw; (try dsimp only at hSw); first | (go_simp; done) | (go_simp; with_reducible rfl)))); (try simp only [Act.put, List.setIfInBounds_toArray, List.set_cons_zero, List.set_cons_succ]); (refine lexTk 4 (v := ?_) rfl hHeld ?_ (by kernel_rfl) (fun _ _ _ h => h) ?_ ?_; rotate_left 2; (focus rfl); (focus (intro w hSw; (try dsimp only at hSw); first | (go_simp; done) | (go_simp; with_reducible rfl)))); (try simp only [Act.put, List.setIfInBounds_toArray, List.set_cons_zero, List.set_cons_succ]); (refine lexTk 5 (v := ?_) rfl hHeld ?_ (by kernel_rfl) (fun _ _ _ h => h) ?_ ?_; rotate_left 2; (focus rfl); (focus (intro w hSw; (try dsimp only at hSw); first | (go_simp; done) | (go_simp; with_reducible rfl)))); (try simp only [Act.put, List.setIfInBounds_toArray, List.set_cons_zero, List.set_cons_succ]); (refine lexTk 6 (v := ?_) rfl hHeld ?_ (by kernel_rfl) (fun _ _ _ h => h) ?_ ?_; rotate_left 2; (focus rfl); (focus (intro w hSw; (try dsimp only at hSw); first | (go_simp; done) | (go_simp; with_reducible rfl)))); (try simp only [Act.put, List.setIfInBounds_toArray, List.set_cons_zero, List.set_cons_succ]); (refine lexTk 7 (v := ?_) rfl hHeld ?_ (by kernel_rfl) (fun _ _ _ h => h) ?_ ?_; rotate_left 2; (focus rfl); (focus (intro w hSw; (try dsimp only at hSw); first | (go_simp; done) | (go_simp; with_reducible rfl)))); (try simp only [Act.put, List.setIfInBounds_toArray, List.set_cons_zero, List.set_cons_succ]); (refine lexTk 8 (v := ?_) rfl hHeld ?_ (by kernel_rfl) (fun _ _ _ h => h) ?_ ?_; rotate_left 2; (focus rfl); (focus (intro w hSw; (try dsimp only at hSw); first | (go_simp; done) | (go_simp; with_reducible rfl)))); (try simp only [Act.put, List.setIfInBounds_toArray, List.set_cons_zero, List.set_cons_succ]); refine lexHv 9 rfl ?_ (by kernel_rfl); (intro K hK); ((refine copy_step rfl _ _ 61 61 rfl rfl rfl (HC2.out _ _ _ _ _ _ _ (by omega) (by omega) (by omega) (by omega)) ?_)); refine hK.out _ _ ?_ ?_; (focus (first | with_reducible exact True.intro | ((try dsimp only); and_intros <;> first | (go_simp; done) | (go_keep; done)))); (clear hHeld hK K); (intro hHeld); (try simp only [Act.put, List.setIfInBounds_toArray, List.set_cons_zero, List.set_cons_succ]); refine wpAnyH_done (by kernel_rfl) ?_ _
  go_wp2_with fail
  go_ret
  exact ⟨_, rfl, HO.out, ⟨HB.out.os, HB.out.tape, HB.out.output, HB.out.size, fun q hq _ => HB.out.block q hq⟩, .inr rfl⟩
end Go.Proofs.Ytjmjnkilgoelbaa
