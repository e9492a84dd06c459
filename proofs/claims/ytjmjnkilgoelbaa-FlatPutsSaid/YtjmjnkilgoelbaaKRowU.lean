/-
  RowU: slices.Replace: by more than goes; whatever it is.
-/
import Derived.Test.YtjmjnkilgoelbaaJ3a
namespace Go.Proofs.Ytjmjnkilgoelbaa
open Go.RowKit

set_option maxRecDepth 100000 in
set_option maxHeartbeats 4000000 in
/-- slices.Replace by more than goes, where there is room. -/
theorem repI_push (base g n i j cap : Nat) (xs : List Value) (cur : Array Value) (w : World) (b o m c : Nat) (ys : List Value) (hb : base ≤ g) (hrow : RowAt w g 3 cur) (hcur : cur.size = cap) (hxs : cur.toList.take n = xs) (hij : i < j) (hj : j < n) (hnc : n ≤ cap) (hcm : cap ≤ maxLen) (hn : n ≤ 1000000)
    (hl : ys.length = m) (hm0 : 0 < m) (hm : m ≤ 1000000) (hys : ∀ k u, ys[k]? = some u → w.cell? ⟨b, o + k, none⟩ = some u) (h1 : ∀ u ∈ ys, u.oneCell' = true) (h2 : ∀ u ∈ xs, u.oneCell' = true) (hne : b ≠ g) (T : Nat) (hT : T = i + m + (n - j)) (hroom : T ≤ cap) (hfit : j < i + m) :
    Calls Try.prog 143 #[.slice (some ⟨g, 0, none⟩) n cap, .int .i64 i, .int .i64 j, .slice (some ⟨b, o, none⟩) m c] w fun e w' => ∃ v', e = .returned v' ∧ w'.ownsRow base 3 1 v' T (xs.take i ++ ys ++ xs.drop j) ∧ w.grownBy w' (some g) ∧ (v'.ownBlock = some g ∨ v'.ownBlock = some w.heap.size) := by
  have hxl : xs.length = n := by rw [← hxs, List.length_take, Array.length_toList, hcur]; omega
  have hget : ∀ k, k < n → cur[k]? = xs[k]? := fun k hk => by rw [← hxs, List.getElem?_take, if_pos hk, Array.getElem?_toList]
  obtain ⟨ti, hti, _, hsize, _⟩ := eiInt
  obtain ⟨W2, hW2⟩ : ∃ W, w.drew.drew.setCells g (i + m) (xs.drop j) = W := ⟨_, rfl⟩
  have r2 : RowAt W2 g 3 (ovw cur (i + m) (xs.drop j)) := by rw [← hW2]; exact RowAt.sets (xs.drop j) (w := w.drew.drew) _ hrow
  have k2 : ∀ q, q ≠ g → W2.heap[q]? = w.heap[q]? := fun q hq => by rw [← hW2]; exact sets_other (xs.drop j) w.drew.drew _ hq
  have g2 : w.grownBy W2 (some g) := by rw [← hW2]; exact grownBy_sets (W := w.drew.drew) ⟨rfl, rfl, rfl, Nat.le_refl _, fun _ _ _ => rfl⟩
  have hcp1 : ∀ ty o1 l1 c1 o2 l2 c2, o1 = i + m → l1 = T - (i + m) → o2 = j → l2 = n - j → (Builtin.copy_ #[61, 61] ty #[.slice (some ⟨g, o1, none⟩) l1 c1, .slice (some ⟨g, o2, none⟩) l2 c2]).run Try.prog w.drew.drew = .ok (goInt (Nat.min l2 l1 : Nat)) W2 := by
    rintro ty o1 l1 c1 o2 l2 c2 rfl rfl rfl rfl
    rw [← hW2]
    refine run_copy_row w.drew.drew _ _ ty 3 g (i + m) (T - (i + m)) c1 ⟨g, o2, none⟩ (n - o2) c2 (xs.drop o2) hti Try.underlying61 (by rw [hsize, List.length_drop, hxl, show Nat.min (n - o2) (T - (i + m)) = n - o2 from Nat.min_eq_left (by omega)]; omega) ?_ ?_ ?_ (fun u hu => h2 u (List.mem_of_mem_drop hu))
    · intro k u hk
      have hkl : k < n - o2 := by have := (List.getElem?_eq_some_iff.1 hk).1; rw [List.length_drop, hxl] at this; exact this
      rw [Addr.add_lit]; show w.cell? _ = _; rw [hrow.cell, hget _ (by omega)]; rwa [List.getElem?_drop] at hk
    · intro k hk
      rw [List.length_drop, hxl] at hk
      show (w.cell? _).isSome = _
      rw [hrow.cell, Array.getElem?_eq_getElem (by rw [hcur]; omega)]; rfl
    · intro k hk; exact hrow.frozen _
  have hys2 : ∀ k u, ys[k]? = some u → W2.cell? ⟨b, o + k, none⟩ = some u := fun k u hk => (World.cell?_of_block (a := ⟨b, o + k, none⟩) (k2 b hne)).trans (hys k u hk)
  obtain ⟨W3, hW3⟩ : ∃ W, W2.setCells g i ys = W := ⟨_, rfl⟩
  have r3 : RowAt W3 g 3 (ovw (ovw cur (i + m) (xs.drop j)) i ys) := by rw [← hW3]; exact r2.sets _ _
  have g3 : w.grownBy W3 (some g) := by rw [← hW3]; exact grownBy_sets g2
  have hcp2 : ∀ ty o1 l1 c1, o1 = i → l1 = T - i → (Builtin.copy_ #[61, 61] ty #[.slice (some ⟨g, o1, none⟩) l1 c1, .slice (some ⟨b, o, none⟩) m c]).run Try.prog W2 = .ok (goInt (Nat.min m l1 : Nat)) W3 := by
    rintro ty o1 l1 c1 rfl rfl
    rw [← hW3]
    refine run_copy_row W2 _ _ ty 3 g o1 (T - o1) c1 ⟨b, o, none⟩ m c ys hti Try.underlying61 (by rw [hsize, hl, show Nat.min m (T - o1) = m from Nat.min_eq_left (by omega)]; omega) ?_ ?_ ?_ h1
    · intro k u hk; rw [Addr.add_lit]; exact hys2 k u hk
    · intro k hk; rw [r2.cell, Array.getElem?_eq_getElem (by rw [ovw_size, hcur]; omega)]; rfl
    · intro k hk; exact r2.frozen _
  have hown := rowAt_own (base := base) (n := T) (size := 1) (xs := xs.take i ++ ys ++ xs.drop j) hb r3 hroom hcm (by rw [ovw_size, ovw_size, hcur, Nat.mul_one]) (by
    rw [Nat.mul_one, hT]
    exact ovw_rep2 hxl hl (by omega) (by omega) (by rw [hcur]; omega) (fun k hk => hget k (by omega)))
  obtain ⟨u0, hu0⟩ := getElem?_ex (l := ys) (k := 0) (by omega)
  obtain ⟨tB, kB, hsB, hkB⟩ := shape_of_cell (hys 0 u0 hu0)
  have hov : ∀ o1 l1 c1, (callFunc 179 #[.slice (some ⟨g, o1, none⟩) l1 c1, .slice (some ⟨b, o, none⟩) m c]).run Try.prog w.drew = .ok (.value (.bool false)) w.drew := fun o1 l1 c1 =>
    over_int w.drew ⟨g, o1, none⟩ ⟨b, o, none⟩ l1 c1 m c (Ne.symm hne) _ _ _ _ hrow.shape hsB hkB (hrow.frozen _) (hrow.frozen _)
  have HC1 := Lib.hid hcp1
  have HC2 := Lib.hid hcp2
  have HO := Lib.hid hown
  have HG := Lib.hid g3
  have hTc : ¬ (cap : Int) < (T : Int) := by omega
  have hTc1 : (T : Int) ≤ (cap : Int) := by omega
  have hTi : (i : Int) ≤ (T : Int) := by omega
  have hTm : (i : Int) + (m : Int) ≤ (T : Int) := by omega
  have hTj : ¬ (i : Int) + (m : Int) ≤ (j : Int) := by omega
  have hcm1 : ¬ cap = i + m := by omega
  have hTb : (T : Int) ≤ 3000000 := by omega
  have hw2 : IntKind.i64.wrap ((i : Int) + (m : Int) + ((n : Int) - (j : Int))) = (T : Int) := by rw [IntKind.wrap_i64]; omega
  have hcm2 : (cap : Int) ≤ 9223372036854775807 := by unfold maxLen at hcm; omega
  have hcn : (n : Int) ≤ (cap : Int) := by omega
  have hin : (i : Int) ≤ (n : Int) := by omega
  have hic : (i : Int) ≤ (cap : Int) := by omega
  have hij1 : (i : Int) ≤ (j : Int) := by omega
  have hij2 : ¬ (i : Int) = (j : Int) := by omega
  have hij3 : ¬ i = j := by omega
  have hjn1 : (j : Int) ≤ (n : Int) := by omega
  have hjn2 : ¬ (j : Int) = (n : Int) := by omega
  have hjn3 : ¬ j = n := by omega
  have hjc : (j : Int) ≤ (cap : Int) := by omega
  have hci : ¬ cap = i := by omega
  have hcj : ¬ cap = j := by omega
  have hmb : (m : Int) ≤ 1000000 := by omega
  have hnb : (n : Int) ≤ 1000000 := by omega
  have hw1 : IntKind.i64.wrap ((i : Int) + (m : Int)) = (i : Int) + (m : Int) := by rw [IntKind.wrap_i64]; omega
  have hk1 : ((i : Int) + (m : Int)).toNat = i + m := by omega
  have hk2 : (0 : Int) ≤ (i : Int) + (m : Int) := by omega
  have hd1 : ((n - j : Nat) : Int) = (n : Int) - (j : Int) := by omega
  clear hcp1 hcp2 hown r2 r3 k2 g2 g3 hrow hcur hxs hW2 hW3 hl h1 h2 hxl hcm hti hsize hget hys hys2 hT hb hfit hu0 hsB hkB hne
  go_enter Try.func143, Try.ntmps143
  go_wp2_with fail
  refine wp_region_held_drew (S := fun w' => True) (by kernel_rfl) ?_ (fun hHeld => ?_); (focus (first | with_reducible exact True.intro | ((try dsimp only); and_intros <;> first | (go_simp; done) | (go_keep; done)))); (refine lexTk 0 (v := ?_) rfl hHeld ?_ (by kernel_rfl) (fun _ _ _ h => h) ?_ ?_; rotate_left 2; (focus rfl); (focus (intro w hSw; (try dsimp only at hSw); first | (go_simp; done) | (go_simp; with_reducible rfl)))); (try simp only [Act.put, List.setIfInBounds_toArray, List.set_cons_zero, List.set_cons_succ]); (refine lexTk 1 (v := ?_) rfl hHeld ?_ (by kernel_rfl) (fun _ _ _ h => h) ?_ ?_; rotate_left 2; (focus rfl); (focus (intro w hSw; (try dsimp only at hSw); first | (go_simp; done) | (go_simp; with_reducible rfl)))); (try simp only [Act.put, List.setIfInBounds_toArray, List.set_cons_zero, List.set_cons_succ]); (refine lexTk 2 (v := ?_) rfl hHeld ?_ (by kernel_rfl) (fun _ _ _ h => h) ?_ ?_; rotate_left 2; (focus rfl); (focus (intro w hSw; (try dsimp only at hSw); first | (go_simp; done) | (go_simp; with_reducible rfl)))); (try simp only [Act.put, List.setIfInBounds_toArray, List.set_cons_zero, List.set_cons_succ]); (refine lexTk 3 (v := ?_) rfl hHeld ?_ (by kernel_rfl) (fun _ _ _ h => h) ?_ ?_; rotate_left 2; (focus rfl); (focus (intro w hSw; (try dsimp only at hSw); first | (go_simp; done) | (go_simp; with_reducible rfl)))); (try simp only [Act.put, List.setIfInBounds_toArray, List.set_cons_zero, List.set_cons_succ]); (refine lexTk 4 (v := ?_) rfl hHeld ?_ (by kernel_rfl) (fun _ _ _ h => h) ?_ ?_; rotate_left 2; (focus rfl); (focus (intro w hSw; (try dsimp only at hSw); first | (go_simp; done) | (go_simp; with_reducible rfl)))); (try simp only [Act.put, List.setIfInBounds_toArray, List.set_cons_zero, List.set_cons_succ]); (refine lexTk 5 (v := ?_) rfl hHeld ?_ (by kernel_rfl) (fun _ _ _ h => h) ?_ ?_; rotate_left 2; (focus rfl); (focus (intro w hSw; (try dsimp only at hSw); first | (go_simp; done) | (go_simp; with_reducible rfl)))); (try simp only [Act.put, List.setIfInBounds_toArray, List.set_cons_zero, List.set_cons_succ]); (refine lexTk 6 (v := ?_) rfl hHeld ?_ (by kernel_rfl) (fun _ _ _ h => h) ?_ ?_; rotate_left 2; (focus rfl); (focus (intro w hSw; (try dsimp only at hSw); first | (go_simp; done) | (go_simp; with_reducible rfl)))); (try simp only [Act.put, List.setIfInBounds_toArray, List.set_cons_zero, List.set_cons_succ]); (refine lexTk 7 (v := ?_) rfl hHeld ?_ (by kernel_rfl) (fun _ _ _ h => h) ?_ ?_; rotate_left 2; (focus rfl); (focus (intro w hSw; (try dsimp only at hSw); first | (go_simp; done) | (go_simp; with_reducible rfl)))); (try simp only [Act.put, List.setIfInBounds_toArray, List.set_cons_zero, List.set_cons_succ]); (refine lexTk 8 (v := ?_) rfl hHeld ?_ (by kernel_rfl) (fun _ _ _ h => h) ?_ ?_; rotate_left 2; (focus rfl); (focus (intro w hSw; (try dsimp only at hSw); first | (go_simp; done) | (go_simp; with_reducible rfl)))); (try simp only [Act.put, List.setIfInBounds_toArray, List.set_cons_zero, List.set_cons_succ]); (refine lexTk 9 (v := ?_) rfl hHeld ?_ (by kernel_rfl) (fun _ _ _ h => h) ?_ ?_; rotate_left 2; (focus rfl); (focus (intro w hSw; (try dsimp only at hSw); first | (go_simp; done) | (go_simp; with_reducible rfl)))); (try simp only [Act.put, List.setIfInBounds_toArray, List.set_cons_zero, List.set_cons_succ]); (refine lexTk 10 (v := ?_) rfl hHeld ?_ (by kernel_rfl) (fun _ _ _ h => h) ?_ ?_; rotate_left 2; (focus rfl); (focus (intro w hSw; (try dsimp only at hSw); first | (go_simp; done) | (go_simp; with_reducible rfl)))); (try simp only [Act.put, List.setIfInBounds_toArray, List.set_cons_zero, List.set_cons_succ]); (refine lexTk 11 (v := ?_) rfl hHeld ?_ (by kernel_rfl) (fun _ _ _ h => h) ?_ ?_; rotate_left 2; (focus rfl); (focus (intro w hSw; (try dsimp only at hSw); first | (go_simp; done) | (go_simp; with_reducible rfl)))); (try simp only [Act.put, List.setIfInBounds_toArray, List.set_cons_zero, List.set_cons_succ]); (refine lexTk 12 (v := ?_) rfl hHeld ?_ (by kernel_rfl) (fun _ _ _ h => h) ?_ ?_; rotate_left 2; (focus rfl); (focus (intro w hSw; (try dsimp only at hSw); first | (go_simp; done) | (go_simp; with_reducible rfl)))); (try simp only [Act.put, List.setIfInBounds_toArray, List.set_cons_zero, List.set_cons_succ]); refine wpAnyH_done (by kernel_rfl) ?_ _
  go_wp2_with (simp only [hov])
  refine wp_region_held_drew (S := fun w' => True) (by kernel_rfl) ?_ (fun hHeld => ?_); (focus (first | with_reducible exact True.intro | ((try dsimp only); and_intros <;> first | (go_simp; done) | (go_keep; done)))); (refine lexTk 0 (v := ?_) rfl hHeld ?_ (by kernel_rfl) (fun _ _ _ h => h) ?_ ?_; rotate_left 2; (focus rfl); (focus (intro w hSw; (try dsimp only at hSw); first | (go_simp; done) | (go_simp; with_reducible rfl)))); (try simp only [Act.put, List.setIfInBounds_toArray, List.set_cons_zero, List.set_cons_succ]); (refine lexTk 1 (v := ?_) rfl hHeld ?_ (by kernel_rfl) (fun _ _ _ h => h) ?_ ?_; rotate_left 2; (focus rfl); (focus (intro w hSw; (try dsimp only at hSw); first | (go_simp; done) | (go_simp; with_reducible rfl)))); (try simp only [Act.put, List.setIfInBounds_toArray, List.set_cons_zero, List.set_cons_succ]); (refine lexTk 2 (v := ?_) rfl hHeld ?_ (by kernel_rfl) (fun _ _ _ h => h) ?_ ?_; rotate_left 2; (focus rfl); (focus (intro w hSw; (try dsimp only at hSw); first | (go_simp; done) | (go_simp; with_reducible rfl)))); (try simp only [Act.put, List.setIfInBounds_toArray, List.set_cons_zero, List.set_cons_succ]); (refine lexTk 3 (v := ?_) rfl hHeld ?_ (by kernel_rfl) (fun _ _ _ h => h) ?_ ?_; rotate_left 2; (focus rfl); (focus (intro w hSw; (try dsimp only at hSw); first | (go_simp; done) | (go_simp; with_reducible rfl)))); (try simp only [Act.put, List.setIfInBounds_toArray, List.set_cons_zero, List.set_cons_succ]); (refine lexTk 4 (v := ?_) rfl hHeld ?_ (by kernel_rfl) (fun _ _ _ h => h) ?_ ?_; rotate_left 2; (focus rfl); (focus (intro w hSw; (try dsimp only at hSw); first | (go_simp; done) | (go_simp; with_reducible rfl)))); (try simp only [Act.put, List.setIfInBounds_toArray, List.set_cons_zero, List.set_cons_succ]); (refine lexTk 5 (v := ?_) rfl hHeld ?_ (by kernel_rfl) (fun _ _ _ h => h) ?_ ?_; rotate_left 2; (focus rfl); (focus (intro w hSw; (try dsimp only at hSw); first | (go_simp; done) | (go_simp; with_reducible rfl)))); (try simp only [Act.put, List.setIfInBounds_toArray, List.set_cons_zero, List.set_cons_succ]); (refine lexTk 6 (v := ?_) rfl hHeld ?_ (by kernel_rfl) (fun _ _ _ h => h) ?_ ?_; rotate_left 2; (focus rfl); (focus (intro w hSw; (try dsimp only at hSw); first | (go_simp; done) | (go_simp; with_reducible rfl)))); (try simp only [Act.put, List.setIfInBounds_toArray, List.set_cons_zero, List.set_cons_succ]); (refine lexTk 7 (v := ?_) rfl hHeld ?_ (by kernel_rfl) (fun _ _ _ h => h) ?_ ?_; rotate_left 2; (focus rfl); (focus (intro w hSw; (try dsimp only at hSw); first | (go_simp; done) | (go_simp; with_reducible rfl)))); (try simp only [Act.put, List.setIfInBounds_toArray, List.set_cons_zero, List.set_cons_succ]); (refine lexTk 8 (v := ?_) rfl hHeld ?_ (by kernel_rfl) (fun _ _ _ h => h) ?_ ?_; rotate_left 2; (focus rfl); (focus (intro w hSw; (try dsimp only at hSw); first | (go_simp; done) | (go_simp; with_reducible rfl)))); (try simp only [Act.put, List.setIfInBounds_toArray, List.set_cons_zero, List.set_cons_succ]); refine lexHv 9 rfl ?_ (by kernel_rfl); (intro K hK); ((refine copy_step rfl _ _ 61 61 rfl rfl rfl (HC1.out _ _ _ _ _ _ _ (by omega) (by omega) (by omega) (by omega)) ?_)); refine hK.out _ _ ?_ ?_; (focus (first | with_reducible exact True.intro | ((try dsimp only); and_intros <;> first | (go_simp; done) | (go_keep; done)))); (clear hHeld hK K); (intro hHeld); (try simp only [Act.put, List.setIfInBounds_toArray, List.set_cons_zero, List.set_cons_succ]); refine wpAnyH_done (by kernel_rfl) ?_ _
  go_wp2_with (refine wpList_copy_run rfl _ _ 61 61 rfl rfl rfl (HC2.out _ _ _ _ (by omega) (by omega)) ?_)
  go_ret
  exact ⟨_, rfl, HO.out, HG.out, .inl rfl⟩

/-- slices.Replace, in a row of the call's own. -/
theorem repI_any (base : Nat) (v : Value) (n i j : Nat) (xs : List Value) (w : World) (b o m c : Nat) (ys : List Value) (hown : w.ownsRow base 3 1 v n xs) (hij : i ≤ j) (hjn : j ≤ n) (hend : i = j → i = n) (hn : n ≤ 1000000)
    (hl : ys.length = m) (hm0 : 0 < m) (hm : m ≤ 1000000) (hys : ∀ k u, ys[k]? = some u → w.cell? ⟨b, o + k, none⟩ = some u) (h1 : ∀ u ∈ ys, u.oneCell' = true) (h2 : ∀ u ∈ xs, u.oneCell' = true) (hne : v.ownBlock ≠ some b) (hbase : base ≤ w.heap.size) :
    Calls Try.prog 143 #[v, .int .i64 i, .int .i64 j, .slice (some ⟨b, o, none⟩) m c] w fun e w' => ∃ v', e = .returned v' ∧ w'.ownsRow base 3 1 v' (i + m + (n - j)) (xs.take i ++ ys ++ xs.drop j) ∧ w.grownBy w' v.ownBlock ∧ (v'.ownBlock = v.ownBlock ∨ v'.ownBlock = some w.heap.size) := by
  have hxl : xs.length = n := by rw [hown.1, Nat.mul_one]
  by_cases he : i = j
  · obtain rfl : i = n := hend he
    subst he
    have := repI_end base v i xs w b o m c ys hown hn hl hm0 hm hys h1 hbase
    rw [List.take_of_length_le (by omega), List.drop_of_length_le (by omega), List.append_nil, Nat.sub_self, Nat.add_zero]
    exact this
  · rcases hown.2 with ⟨_, h0⟩ | ⟨g, cap, cur, rfl, hb, hrow, hc1, hcm, hsz, htk⟩
    · omega
    · rw [Nat.mul_one] at hsz htk
      have hne2 : b ≠ g := fun h => hne (by rw [h]; rfl)
      by_cases hjn2 : j = n
      · subst hjn2
        have := repI_tail base g j i cap xs cur w b o m c ys hb hrow hsz htk (by omega) hc1 hcm hn hl hm0 hm hys h1 hbase
        rw [List.drop_of_length_le (by omega), List.append_nil, Nat.sub_self, Nat.add_zero]
        exact this
      · by_cases hroom : i + m + (n - j) ≤ cap
        · by_cases hfit : i + m ≤ j
          · exact repI_fit base g n i j cap xs cur w b o m c ys hb hrow hsz htk (by omega) (by omega) hc1 hcm hn hl hys h1 h2 _ rfl hfit
          · exact repI_push base g n i j cap xs cur w b o m c ys hb hrow hsz htk (by omega) (by omega) hc1 hcm hn hl hm0 hm hys h1 h2 hne2 _ rfl hroom (by omega)
        · obtain ⟨u0, hu0⟩ := getElem?_ex (l := ys) (k := 0) (by omega)
          exact repI_grow base g n i j cap xs cur w b o m c ys hrow hsz htk (by omega) (by omega) hc1 hcm hn hl hm hys h1 h2 hbase _ rfl (by omega) (fun _ => World.block_lt_of_cell? _ _ (hys 0 u0 hu0))

/-- slices.Replace by integers. -/
theorem repInts (base : Nat) (v vy : Value) (i j : Nat) (l l2 : List Int) (w : World) (hown : w.ownsRow base 3 1 v l.length (intF l)) (hij : i ≤ j) (hjn : j ≤ l.length) (hend : i = j → i = l.length) (hn : l.length ≤ 1000000)
    (hy : Ints .i64 w vy l2) (h0 : 0 < l2.length) (hm : l2.length ≤ 1000000) (hne : ∀ b o n c, vy = .slice (some ⟨b, o, none⟩) n c → v.ownBlock ≠ some b) (hbase : base ≤ w.heap.size) :
    Calls Try.prog 143 #[v, .int .i64 i, .int .i64 j, vy] w fun e w' => ∃ v', e = .returned v' ∧ w'.ownsRow base 3 1 v' (l.take i ++ l2 ++ l.drop j).length (intF (l.take i ++ l2 ++ l.drop j)) ∧ w.grownBy w' v.ownBlock ∧ (v'.ownBlock = v.ownBlock ∨ ∃ b, v'.ownBlock = some b ∧ w.heap.size ≤ b) := by
  obtain ⟨a, c, rfl, k1, k2, k3, hc⟩ := hy
  obtain ⟨x0, hx0⟩ := getElem?_ex (l := l2) (k := 0) h0
  obtain ⟨b, o, rfl, hb, _⟩ := hc 0 x0 hx0
  refine (repI_any base v l.length i j (intF l) w b o l2.length c (intF l2) hown hij hjn hend hn (intF_len l2) h0 hm ?_ (fun u hu => intF_one hu) (fun u hu => intF_one hu) (hne b o _ c rfl) hbase).mono ?_
  · intro k u hk
    rw [intF, List.getElem?_map] at hk
    cases hy : l2[k]? with
    | none => rw [hy] at hk; cases hk
    | some y =>
      rw [hy] at hk
      obtain ⟨b', o', e, _, hcell⟩ := hc k y hy
      injection e with e
      injection e with e1 e2
      subst e1 e2
      rw [hcell]
      simpa using hk
  · rintro e w' ⟨v', rfl, g1, g2, g3⟩
    refine ⟨v', rfl, ?_, g2, ?_⟩
    · have e1 : (l.take i ++ l2 ++ l.drop j).length = i + l2.length + (l.length - j) := by simp; omega
      rw [e1, intF_append, intF_append]
      have e2 : intF (l.take i) = (intF l).take i := by simp [intF, List.map_take]
      have e3 : intF (l.drop j) = (intF l).drop j := by simp [intF, List.map_drop]
      rw [e2, e3]
      exact g1
    · rcases g3 with h | h
      · exact .inl h
      · exact .inr ⟨_, h, Nat.le_refl _⟩
end Go.Proofs.Ytjmjnkilgoelbaa
