/-
  RowR: slices.Replace in a row of integers of the call's own.
-/
import Derived.Test.YtjmjnkilgoelbaaJ0a
import Derived.Test.YtjmjnkilgoelbaaJ2a
namespace Go.Proofs.Ytjmjnkilgoelbaa
open Go.RowKit

theorem over_int (w : World) (a b : Addr) (la ca lb cb : Nat) (hne : a.block ≠ b.block) (tA tB : TypeId) (kA kB : Nat) (hsa : w.shape? a.block = some (tA, kA)) (hsb : w.shape? b.block = some (tB, kB)) (hkB : kB ≠ 0) (hfa : w.frozen? a = false) (hfe : w.frozen? { block := a.block, off := kA } = false) :
    (callFunc 179 #[.slice (some a) la ca, .slice (some b) lb cb]).run Try.prog w = .ok (.value (.bool false)) w := by
  obtain ⟨i, hi, _, h1, _⟩ := eiInt
  rw [run_callFunc_extern (P := Try.prog) (f := 179) (fn := Try.f179) (by kernel_rfl) (by kernel_rfl) (by kernel_rfl) (by kernel_rfl) (e := Extern.SlicesOverlaps.overlaps #[61, 61] #[4]) (by kernel_rfl),
    Lib.run_overlaps_apart w 61 4 3 Try.underlying61 i.size (fun w => by simp [sizeOf, typeInfo, hi]) a b la ca lb cb hne tA tB kA kB hsa hsb hkB hfa hfe]
  rfl

/-- A block of which a cell is known has a shape. -/
theorem shape_of_cell {w : World} {b o : Nat} {v : Value} (h : w.cell? ⟨b, o, none⟩ = some v) : ∃ t k, w.shape? b = some (t, k) ∧ k ≠ 0 := by
  unfold World.cell? at h
  unfold World.shape?
  split at h
  · rename_i c e f hb
    dsimp only at hb
    rw [hb]
    simp only [Option.isSome_none, Bool.false_eq_true, if_false] at h
    refine ⟨_, _, rfl, ?_⟩
    have := (Array.getElem?_eq_some_iff.1 h).1
    omega
  · cases h

/-- What is put in, and what is behind it, in this order. -/
theorem ovw_rep {cur : Array Value} {i j m n : Nat} {xs ys : List Value} (hx : xs.length = n) (hy : ys.length = m) (hij : i ≤ j) (hj : j ≤ n) (hc : i + m + (n - j) ≤ cur.size) (h : ∀ k, k < i → cur[k]? = xs[k]?) :
    (ovw (ovw cur i ys) (i + m) (xs.drop j)).toList.take (i + m + (n - j)) = xs.take i ++ ys ++ xs.drop j := by
  have hd : (xs.drop j).length = n - j := by rw [List.length_drop, hx]
  have ht : (xs.take i).length = i := by rw [List.length_take]; omega
  apply List.ext_getElem?
  intro k
  rw [List.getElem?_take, Array.getElem?_toList, ovw_get _ _ _ _ (by rw [ovw_size]; omega), ovw_get _ _ _ _ (by omega), hd, hy]
  by_cases h1 : k < i
  · rw [if_pos (by omega), if_pos (by omega), if_pos h1, h k h1, List.append_assoc, List.getElem?_append_left (by omega), List.getElem?_take, if_pos h1]
  · by_cases h2 : k < i + m
    · rw [if_pos (by omega), if_pos h2, if_neg h1, if_pos h2, List.append_assoc, List.getElem?_append_right (by omega), ht, List.getElem?_append_left (by omega)]
    · rw [if_neg h2, List.getElem?_append_right (by rw [List.length_append, ht]; omega), List.length_append, ht, hy]
      by_cases h3 : k < i + m + (n - j)
      · rw [if_pos h3, if_pos h3]
      · rw [if_neg h3, List.getElem?_eq_none (by omega)]

/-- The same, what is behind it first. -/
theorem ovw_rep2 {cur : Array Value} {i j m n : Nat} {xs ys : List Value} (hx : xs.length = n) (hy : ys.length = m) (hij : i ≤ j) (hj : j ≤ n) (hc : i + m + (n - j) ≤ cur.size) (h : ∀ k, k < i → cur[k]? = xs[k]?) :
    (ovw (ovw cur (i + m) (xs.drop j)) i ys).toList.take (i + m + (n - j)) = xs.take i ++ ys ++ xs.drop j := by
  have hd : (xs.drop j).length = n - j := by rw [List.length_drop, hx]
  have ht : (xs.take i).length = i := by rw [List.length_take]; omega
  apply List.ext_getElem?
  intro k
  rw [List.getElem?_take, Array.getElem?_toList, ovw_get _ _ _ _ (by rw [ovw_size]; omega), ovw_get _ _ _ _ (by omega), hd, hy]
  by_cases h1 : k < i
  · rw [if_pos (by omega), if_pos h1, if_pos (by omega), h k h1, List.append_assoc, List.getElem?_append_left (by omega), List.getElem?_take, if_pos h1]
  · by_cases h2 : k < i + m
    · rw [if_pos (by omega), if_neg h1, if_pos h2, List.append_assoc, List.getElem?_append_right (by omega), ht, List.getElem?_append_left (by omega)]
    · rw [if_neg h1, if_neg h2, if_neg h2, List.getElem?_append_right (by rw [List.length_append, ht]; omega), List.length_append, ht, hy]
      by_cases h3 : k < i + m + (n - j)
      · rw [if_pos h3, if_pos h3]
      · rw [if_neg h3, List.getElem?_eq_none (by omega)]

/-- What lies behind is of no matter. -/
theorem ovw_tail {cur : Array Value} {k : Nat} {zs : List Value} (hc : k + zs.length ≤ cur.size) : (ovw cur k zs).toList.take k = cur.toList.take k := by
  apply List.ext_getElem?
  intro j
  rw [List.getElem?_take, List.getElem?_take, Array.getElem?_toList, Array.getElem?_toList]
  split
  · rw [ovw_get _ _ _ _ hc, if_pos (by assumption)]
  · rfl

theorem grownBy_sets {w W : World} {g o : Nat} {vs : List Value} (hg : w.grownBy W (some g)) : w.grownBy (W.setCells g o vs) (some g) := by
  have hB := sets_below (B := 0) (Nat.zero_le g) vs o (Below.refl 0 W)
  exact ⟨hB.os.trans hg.os, hB.tape.trans hg.tape, hB.output.trans hg.output, Nat.le_trans hg.size hB.size, fun q hq hne =>
    (sets_other vs W o (fun h => hne (by rw [h]))).trans (hg.block q hq hne)⟩

theorem grownBy_refl (w : World) (r : Option Nat) : w.grownBy w r := ⟨rfl, rfl, rfl, Nat.le_refl _, fun _ _ _ => rfl⟩

theorem zero_cells (k : Nat) : (Builtin.zeroCells (Value.cells (Value.int .i64 0)) k).toList = List.replicate k (Value.int .i64 0) := by
  simp [Builtin.zeroCells, Value.cells, Nat.mod_one, List.eq_replicate_iff]

set_option maxRecDepth 100000 in
set_option maxHeartbeats 4000000 in
/-- slices.Insert at the end. -/
theorem insI_end (base : Nat) (v : Value) (n : Nat) (xs : List Value) (w : World) (b o m c : Nat) (ys : List Value) (hown : w.ownsRow base 3 1 v n xs) (hn : n ≤ 1000000)
    (hl : ys.length = m) (hm0 : 0 < m) (hm : m ≤ 1000000) (hys : ∀ k u, ys[k]? = some u → w.cell? ⟨b, o + k, none⟩ = some u) (h1 : ∀ u ∈ ys, u.oneCell' = true) (hbase : base ≤ w.heap.size) :
    Calls Try.prog 178 #[v, .int .i64 n, .slice (some ⟨b, o, none⟩) m c] w fun e w' => ∃ v', e = .returned v' ∧ w'.ownsRow base 3 1 v' (n + m) (xs ++ ys) ∧ w.grownBy w' v.ownBlock ∧ (v'.ownBlock = v.ownBlock ∨ v'.ownBlock = some w.heap.size) := by
  obtain ⟨i, hi, hz, hsize, hby, hzs, hsz, _⟩ := eiInt
  obtain ⟨v', w', hrun, h2, h3, _, h5⟩ := run_append_own_at (P := Try.prog) (w := w) base 61 61 3 i _ 1 8 Try.underlying61 hi hz hsize hby hzs hsz v n xs hown ⟨b, o, none⟩ m c ys (by omega)
    (fun j u hj => by rw [Addr.add_lit]; exact hys j u hj) h1 (by unfold maxLen; omega) (by omega) hbase
  have HR := Lib.hid hrun
  have HP := Lib.hid (And.intro h2 (And.intro h3 h5))
  have hcase : v = .slice none 0 0 ∧ n = 0 ∨ ∃ g cap, v = .slice (some ⟨g, 0, none⟩) n cap ∧ n ≤ cap ∧ cap ≤ 9223372036854775807 := by
    rcases hown.2 with h | ⟨g, cap, _, h, _, _, h4, h6, _⟩
    · exact .inl h
    · exact .inr ⟨g, cap, h, h4, by simpa [maxLen] using h6⟩
  have hm1 : ¬ m = 0 := by omega
  have hm2 : ¬ (m : Int) = 0 := by omega
  clear hown hrun h2 h3 h5 hys h1 hl hi hz hsize hby hzs hsz hbase hm0
  rcases hcase with ⟨rfl, rfl⟩ | ⟨g, cap, rfl, hc1, hc2⟩
  · rw [Nat.zero_add] at HP
    rw [Int.natCast_zero]
    go_enter Try.func178, Try.ntmps178
    go_wp2_with (at_builtin; refine Lib.wpList_append_run _ rfl _ _ _ _ rfl _ _ rfl rfl _ _ HR.out ?_)
    go_ret
    exact ⟨_, rfl, HP.out⟩
  · have hc3 : (n : Int) ≤ (cap : Int) := by omega
    by_cases hcn : cap = n
    · subst hcn
      go_enter Try.func178, Try.ntmps178
      go_wp2_with (at_builtin; refine Lib.wpList_append_run _ rfl _ _ _ _ rfl _ _ rfl rfl _ _ HR.out ?_)
      go_ret
      exact ⟨_, rfl, HP.out⟩
    · go_enter Try.func178, Try.ntmps178
      go_wp2_with (at_builtin; refine Lib.wpList_append_run _ rfl _ _ _ _ rfl _ _ rfl rfl _ _ HR.out ?_)
      go_ret
      exact ⟨_, rfl, HP.out⟩

set_option maxRecDepth 100000 in
set_option maxHeartbeats 4000000 in
/-- slices.Replace of nothing, at the end. -/
theorem repI_end (base : Nat) (v : Value) (n : Nat) (xs : List Value) (w : World) (b o m c : Nat) (ys : List Value) (hown : w.ownsRow base 3 1 v n xs) (hn : n ≤ 1000000)
    (hl : ys.length = m) (hm0 : 0 < m) (hm : m ≤ 1000000) (hys : ∀ k u, ys[k]? = some u → w.cell? ⟨b, o + k, none⟩ = some u) (h1 : ∀ u ∈ ys, u.oneCell' = true) (hbase : base ≤ w.heap.size) :
    Calls Try.prog 143 #[v, .int .i64 n, .int .i64 n, .slice (some ⟨b, o, none⟩) m c] w fun e w' => ∃ v', e = .returned v' ∧ w'.ownsRow base 3 1 v' (n + m) (xs ++ ys) ∧ w.grownBy w' v.ownBlock ∧ (v'.ownBlock = v.ownBlock ∨ v'.ownBlock = some w.heap.size) := by
  have HI := Lib.hid (insI_end base v n xs w b o m c ys hown hn hl hm0 hm hys h1 hbase)
  have hcase : v = .slice none 0 0 ∧ n = 0 ∨ ∃ g cap, v = .slice (some ⟨g, 0, none⟩) n cap ∧ n ≤ cap ∧ cap ≤ 9223372036854775807 := by
    rcases hown.2 with h | ⟨g, cap, _, h, _, _, h4, h6, _⟩
    · exact .inl h
    · exact .inr ⟨g, cap, h, h4, by simpa [maxLen] using h6⟩
  clear hown hys h1 hl hbase hm0
  rcases hcase with ⟨rfl, rfl⟩ | ⟨g, cap, rfl, hc1, hc2⟩
  · rw [Int.natCast_zero] at HI
    rw [Int.natCast_zero]
    rw [Nat.zero_add] at HI
    rw [Nat.zero_add]
    go_enter Try.func143, Try.ntmps143
    go_wp2_with fail
    (with_reducible refine HI.out.mono ?_)
    rintro e w1 ⟨v1, rfl, hp⟩
    have HP := Lib.hid hp
    clear hp
    go_wp2_with fail
    go_ret
    exact ⟨_, rfl, HP.out⟩
  · have hc3 : (n : Int) ≤ (cap : Int) := by omega
    by_cases hcn : cap = n
    · subst hcn
      go_enter Try.func143, Try.ntmps143
      go_wp2_with fail
      (with_reducible refine HI.out.mono ?_)
      rintro e w1 ⟨v1, rfl, hp⟩
      have HP := Lib.hid hp
      clear hp
      go_wp2_with fail
      go_ret
      exact ⟨_, rfl, HP.out⟩
    · go_enter Try.func143, Try.ntmps143
      go_wp2_with fail
      (with_reducible refine HI.out.mono ?_)
      rintro e w1 ⟨v1, rfl, hp⟩
      have HP := Lib.hid hp
      clear hp
      go_wp2_with fail
      go_ret
      exact ⟨_, rfl, HP.out⟩

theorem clear_int (W2 : World) (g o l : Nat) (cur : Array Value) (r2 : RowAt W2 g 3 cur) (hc : o + l ≤ cur.size) (ty : TypeId) (c : Nat) :
    (Builtin.clear_ #[61] ty #[.slice (some ⟨g, o, none⟩) l c]).run Try.prog W2 = .ok (.tuple #[]) (W2.setCells g o (List.replicate l (Value.int .i64 0))) := by
  obtain ⟨ti, hti, hz0, hsize, _⟩ := eiInt
  have hst := run_storeCells_cells (P := Try.prog) g o (List.replicate l (Value.int .i64 0)) 0 W2 (fun j hj => by
    rw [List.length_replicate] at hj
    rw [r2.cell, Array.getElem?_eq_getElem (by omega)]; rfl) (fun j hj => r2.frozen _) (by intro u hu; rw [List.eq_of_mem_replicate hu]; rfl)
  have hu : (underlying 61).run Try.prog W2 = .ok (.slice 3) W2 := run_underlying Try.underlying61 W2
  have hz : (zeroValue 3).run Try.prog W2 = .ok (Value.int .i64 0) W2 := by simp [zeroValue, typeInfo, hti, hz0]
  simp only [Nat.add_zero] at hst
  cases l with
  | zero => simp [Builtin.clear_, hu, World.setCells]
  | succ l => simp [Builtin.clear_, hu, hz, zero_cells, hst]

set_option maxRecDepth 100000 in
set_option maxHeartbeats 4000000 in
/-- slices.Replace of the tail. -/
theorem repI_tail (base g n i cap : Nat) (xs : List Value) (cur : Array Value) (w : World) (b o m c : Nat) (ys : List Value) (hb : base ≤ g) (hrow : RowAt w g 3 cur) (hcur : cur.size = cap) (hxs : cur.toList.take n = xs) (hi : i < n) (hnc : n ≤ cap) (hcm : cap ≤ maxLen) (hn : n ≤ 1000000)
    (hl : ys.length = m) (hm0 : 0 < m) (hm : m ≤ 1000000) (hys : ∀ k u, ys[k]? = some u → w.cell? ⟨b, o + k, none⟩ = some u) (h1 : ∀ u ∈ ys, u.oneCell' = true) (hbase : base ≤ w.heap.size) :
    Calls Try.prog 143 #[.slice (some ⟨g, 0, none⟩) n cap, .int .i64 i, .int .i64 n, .slice (some ⟨b, o, none⟩) m c] w fun e w' => ∃ v', e = .returned v' ∧ w'.ownsRow base 3 1 v' (i + m) (xs.take i ++ ys) ∧ w.grownBy w' (some g) ∧ (v'.ownBlock = some g ∨ v'.ownBlock = some w.heap.size) := by
  have hxl : xs.length = n := by rw [← hxs, List.length_take, Array.length_toList, hcur]; omega
  have hget : ∀ k, k < i → cur[k]? = xs[k]? := fun k hk => by rw [← hxs, List.getElem?_take, if_pos (by omega), Array.getElem?_toList]
  have hcm2 : (cap : Int) ≤ 9223372036854775807 := by unfold maxLen at hcm; omega
  have hcn : (n : Int) ≤ (cap : Int) := by omega
  have hin : (i : Int) ≤ (n : Int) := by omega
  have hic : (i : Int) ≤ (cap : Int) := by omega
  have hin2 : ¬ (i : Int) = (n : Int) := by omega
  have hin3 : ¬ i = n := by omega
  have hci : ¬ cap = i := by omega
  by_cases hroom : i + m ≤ cap
  · obtain ⟨ti, hti, hz0, hsize, _⟩ := eiInt
    obtain ⟨W2, hW2⟩ : ∃ W, w.setCells g i ys = W := ⟨_, rfl⟩
    have r2 : RowAt W2 g 3 (ovw cur i ys) := by rw [← hW2]; exact RowAt.sets ys _ hrow
    have g2 : w.grownBy W2 (some g) := by rw [← hW2]; exact grownBy_sets (grownBy_refl w _)
    have hap : ∀ ty, (Builtin.append_ #[61, 61] ty #[.slice (some ⟨g, 0, none⟩) i cap, .slice (some ⟨b, o, none⟩) m c]).run Try.prog w = .ok (.slice (some ⟨g, 0, none⟩) (i + m) cap) W2 := by
      intro ty
      have := run_append_room_src w 61 61 ty 3 ti Try.underlying61 hti g 0 i cap (.slice (some ⟨b, o, none⟩) m c) m ys (Src.ofSlice w Try.underlying61 ⟨b, o, none⟩ _ _ _ (by rw [hsize, hl]; omega) (fun j u hj => by rw [Addr.add_lit]; exact hys j u hj) h1) hroom (fun j hj => by
        rw [hrow.cell, hsize, Array.getElem?_eq_getElem (by rw [hcur]; omega)]; rfl) (fun j hj => hrow.frozen _)
      rw [this, hsize, Nat.mul_one, Nat.zero_add, hW2]
    have hown2 : (ovw cur i ys).toList.take (i + m) = xs.take i ++ ys := by
      have := ovw_rep (cur := cur) (i := i) (j := n) (m := m) hxl hl (by omega) (Nat.le_refl _) (by rw [hcur]; omega) hget
      rw [List.drop_of_length_le (by omega), List.append_nil, Nat.sub_self, Nat.add_zero] at this
      exact this
    by_cases hlt : i + m < n
    · obtain ⟨W3, hW3⟩ : ∃ W, W2.setCells g (i + m) (List.replicate (n - (i + m)) (Value.int .i64 0)) = W := ⟨_, rfl⟩
      have r3 : RowAt W3 g 3 (ovw (ovw cur i ys) (i + m) (List.replicate (n - (i + m)) (Value.int .i64 0))) := by rw [← hW3]; exact r2.sets _ _
      have g3 : w.grownBy W3 (some g) := by rw [← hW3]; exact grownBy_sets g2
      have hcl : ∀ ty o1 l1 c1, o1 = i + m → l1 = n - (i + m) → (Builtin.clear_ #[61] ty #[.slice (some ⟨g, o1, none⟩) l1 c1]).run Try.prog W2 = .ok (.tuple #[]) W3 := by
        rintro ty o1 l1 c1 rfl rfl
        rw [← hW3]
        exact clear_int W2 g (i + m) (n - (i + m)) _ r2 (by rw [ovw_size, hcur]; omega) ty c1
      have hown := rowAt_own (base := base) (n := i + m) (size := 1) (xs := xs.take i ++ ys) hb r3 hroom hcm (by rw [ovw_size, ovw_size, hcur, Nat.mul_one]) (by
        rw [Nat.mul_one, ovw_tail (by rw [ovw_size, hcur, List.length_replicate]; omega)]
        exact hown2)
      have HAP := Lib.hid hap
      have HCL := Lib.hid hcl
      have HO := Lib.hid hown
      have HG := Lib.hid g3
      have j1 : (i : Int) + (m : Int) < (n : Int) := by omega
      have j2 : ¬ cap = i + m := by omega
      have j3 : ((i : Int) + (m : Int)).toNat = i + m := by omega
      have j4 : (i : Int) + (m : Int) ≤ (cap : Int) := by omega
      have j5 : (0 : Int) ≤ (i : Int) + (m : Int) := by omega
      have j6 : (i : Int) + (m : Int) ≤ (n : Int) := by omega
      clear hap hcl hown hown2 r2 r3 g2 g3 hW2 hW3 hrow hcur hxs hget hys h1 hl hti hz0 hsize hb hxl hcm hbase hroom hlt hm0
      go_enter Try.func143, Try.ntmps143
      go_wp2_with (first | (at_builtin; refine Lib.wpList_append_run _ rfl _ _ _ _ rfl _ _ rfl rfl _ _ (HAP.out _) ?_) | (refine wpList_clear_run rfl _ 61 rfl rfl (HCL.out _ _ _ _ (by omega) (by omega)) ?_))
      go_ret
      exact ⟨_, rfl, HO.out, HG.out, .inl rfl⟩
    · have hown := rowAt_own (base := base) (n := i + m) (size := 1) (xs := xs.take i ++ ys) hb r2 hroom hcm (by rw [ovw_size, hcur, Nat.mul_one]) (by rw [Nat.mul_one]; exact hown2)
      have HAP := Lib.hid hap
      have HO := Lib.hid hown
      have HG := Lib.hid g2
      have j1 : ¬ (i : Int) + (m : Int) < (n : Int) := by omega
      clear hap hown hown2 r2 g2 hW2 hrow hcur hxs hget hys h1 hl hti hz0 hsize hb hxl hcm hbase hroom hlt hm0
      go_enter Try.func143, Try.ntmps143
      go_wp2_with (at_builtin; refine Lib.wpList_append_run _ rfl _ _ _ _ rfl _ _ rfl rfl _ _ (HAP.out _) ?_)
      go_ret
      exact ⟨_, rfl, HO.out, HG.out, .inl rfl⟩
  · have hpre : w.ownsRow base 3 1 (.slice (some ⟨g, 0, none⟩) i cap) i (xs.take i) := by
      refine rowAt_own hb hrow (by omega) hcm (by rw [hcur, Nat.mul_one]) ?_
      rw [Nat.mul_one, ← hxs, List.take_take, Nat.min_eq_left (by omega)]
    obtain ⟨ti, hti, hz, hsize, hby, hzs, hsz, _⟩ := eiInt
    have hrun := fun ty => run_append_own_at (P := Try.prog) (w := w) base 61 ty 3 ti _ 1 8 Try.underlying61 hti hz hsize hby hzs hsz _ i _ hpre ⟨b, o, none⟩ m c ys (by omega)
      (fun j u hj => by rw [Addr.add_lit]; exact hys j u hj) h1 (by unfold maxLen; omega) (by omega) hbase
    obtain ⟨v', w', hr, h2, h3, h4, h5⟩ := hrun 61
    have HAP := Lib.hid hr
    have HP := Lib.hid (And.intro h2 (And.intro h3 h5))
    have hsh : ∃ a' c', v' = .slice a' (i + m) c' := by
      rcases h2.2 with ⟨rfl, h0⟩ | ⟨g', c', _, rfl, _⟩
      · omega
      · exact ⟨_, _, rfl⟩
    obtain ⟨a', c', rfl⟩ := hsh
    have j1 : ¬ (i : Int) + (m : Int) < (n : Int) := by omega
    clear hrun hr h2 h3 h4 h5 hpre hrow hcur hxs hget hys h1 hl hti hz hsize hb hxl hcm hbase hroom hm0 hby hzs hsz
    go_enter Try.func143, Try.ntmps143
    go_wp2_with (at_builtin; refine Lib.wpList_append_run _ rfl _ _ _ _ rfl _ _ rfl rfl _ _ HAP.out ?_)
    go_ret
    exact ⟨_, rfl, HP.out⟩
end Go.Proofs.Ytjmjnkilgoelbaa
