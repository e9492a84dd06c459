/-
  RefPathH: Walks of copseref12.Ends, Weight.
-/
import Derived.Test.YtdbonlpkmncggaaKRefPathG
namespace Go.Proofs.Ytdbonlpkmncggaa
open Go.RowKit

theorem lenL_ne {t : TreeP} (h : IsTree t) : ∃ x l, lenL t = x :: l := by
  have hl := h.len
  obtain ⟨_, _, g, s, q, h1, h2⟩ := h
  obtain ⟨j, n, _, _, hj, hn, hlf⟩ := q.wayLeaf []
  have hm : j ∈ leavesT t t.nodes.length := by
    unfold leavesT
    rw [List.mem_filter, List.mem_range]
    exact ⟨hj, by unfold isLeafAt; rw [hn]; exact hlf⟩
  cases hL : lenL t with
  | nil =>
    unfold lenL at hL
    rw [List.map_eq_nil_iff] at hL
    rw [hL] at hm
    cases hm
  | cons x l => exact ⟨x, l, rfl⟩

theorem lenL_bd {t : TreeP} (h : IsTree t) {x : Int} (hx : x ∈ lenL t) : 0 ≤ x ∧ x ≤ 556198264832 := by
  unfold lenL at hx
  rw [List.mem_map] at hx
  obtain ⟨j, hj, rfl⟩ := hx
  obtain ⟨k, hk⟩ := List.getElem?_of_mem hj
  obtain ⟨_, _, _, _, _, h1, h2, _⟩ := leafAt_facts h hk
  exact ⟨h1, h2⟩

theorem lo_same {x : Int} {l : List Int} (h : x ≤ 4611686018427387904) : (x :: l).foldl min 4611686018427387904 = l.foldl min x := by
  rw [List.foldl_cons, show min 4611686018427387904 x = x by omega]
theorem hi_same {x : Int} {l : List Int} (h : 0 ≤ x) : (x :: l).foldl max 0 = l.foldl max x := by
  rw [List.foldl_cons, show max 0 x = x by omega]

theorem fold_min_self (x : Int) (l : List Int) : (x :: l).foldl min x = l.foldl min x := by rw [List.foldl_cons, show min x x = x by omega]
theorem fold_max_self (x : Int) (l : List Int) : (x :: l).foldl max x = l.foldl max x := by rw [List.foldl_cons, show max x x = x by omega]

set_option maxRecDepth 100000 in
set_option maxHeartbeats 2000000 in
theorem rends12_any (v : Value) (t : TreeP) (w : World) (h : TreeR w v t) :
    Calls Try.prog 30 #[v] w fun e w' => e = .returned (.tuple #[.int .i64 (if treeB t = true then (lenL t).foldl min 4611686018427387904 else 0), .int .i64 (if treeB t = true then (lenL t).foldl max 0 else 0), .int .i64 (if treeB t = true then 0 else 100)]) ∧ Below w.heap.size w w' := by
  have HTR := Lib.hid h
  have HLE := Lib.hid (fun W (hW : TreeR W v t) => rlengths_any v t W hW)
  obtain ⟨nv, rfl, ad, cc, rfl, _, _, q3, _⟩ := h
  obtain ⟨TB, hTB⟩ : ∃ TB, treeB t = TB := ⟨_, rfl⟩
  rw [hTB] at HLE ⊢
  cases TB with
  | false =>
    simp only [Bool.false_eq_true, if_false] at HLE ⊢
    clear hTB
    generalize t.nodes.length = n at *
    generalize t.dim = D at *
    go_enter Try.func30, Try.ntmps30
    go_wp2_with fail
    (with_reducible refine (HLE.out _ (HTR.out.below (by (repeat (first | with_reducible exact Below.refl _ _ | with_reducible refine Bs ?_ | with_reducible refine Ba ?_ | with_reducible refine Bd ?_ | with_reducible refine Bn ?_))))).mono ?_); rintro e w1 ⟨vo, rfl, iv, b1⟩; have s1 : w.heap.size + 1 ≤ w1.heap.size := sz b1; have B1 := Lib.hid (Bc (B := w.heap.size) (a := w) (by (repeat (first | with_reducible exact Below.refl _ _ | with_reducible refine Bs ?_ | with_reducible refine Ba ?_ | with_reducible refine Bd ?_ | with_reducible refine Bn ?_))) b1); have c1_0 : w1.cell? ⟨w.heap.size, 0, none⟩ = some (.int .i64 D) := kc b1 (by go_simp) (by first | omega | (simp; done) | (simp; omega)); obtain ⟨l1_0, n1_0, m1_0⟩ := lnm (show w.heap.size < w1.heap.size by omega); clear b1
    obtain ⟨pa, pc, rfl, _⟩ := iv
    go_wp2_with fail
    exact bodyPost_ret (v := .tuple #[.int .i64 0, .int .i64 0, .int .i64 100]) (by simp [results, Try.results30, go_sem]) rfl ⟨rfl, by (repeat (first | with_reducible exact Below.refl _ _ | with_reducible refine Bs ?_ | with_reducible refine Ba ?_ | with_reducible refine Bd ?_ | with_reducible refine Bn ?_ | with_reducible refine Bt B1.out ?_))⟩
  | true =>
    simp only [if_true] at HLE ⊢
    have ht := treeB_true.1 hTB
    obtain ⟨x0, l, hL⟩ := lenL_ne ht
    have hbd : ∀ x ∈ lenL t, 0 ≤ x ∧ x ≤ 556198264832 := fun x hx => lenL_bd ht hx
    rw [hL] at HLE hbd ⊢
    have hx0 := hbd x0 (by simp)
    rw [lo_same (by omega), hi_same hx0.1]
    have H1 := Lib.hid (fold_min_self x0 l)
    have H2 := Lib.hid (fold_max_self x0 l)
    clear hTB ht hL hbd hx0
    generalize t.nodes.length = n at *
    generalize t.dim = D at *
    go_enter Try.func30, Try.ntmps30
    go_wp2_with fail
    (with_reducible refine (HLE.out _ (HTR.out.below (by (repeat (first | with_reducible exact Below.refl _ _ | with_reducible refine Bs ?_ | with_reducible refine Ba ?_ | with_reducible refine Bd ?_ | with_reducible refine Bn ?_))))).mono ?_); rintro e w1 ⟨vo, rfl, iv, b1⟩; have s1 : w.heap.size + 1 ≤ w1.heap.size := sz b1; have B1 := Lib.hid (Bc (B := w.heap.size) (a := w) (by (repeat (first | with_reducible exact Below.refl _ _ | with_reducible refine Bs ?_ | with_reducible refine Ba ?_ | with_reducible refine Bd ?_ | with_reducible refine Bn ?_))) b1); have c1_0 : w1.cell? ⟨w.heap.size, 0, none⟩ = some (.int .i64 D) := kc b1 (by go_simp) (by first | omega | (simp; done) | (simp; omega)); obtain ⟨l1_0, n1_0, m1_0⟩ := lnm (show w.heap.size < w1.heap.size by omega); clear b1
    obtain ⟨pa, pc, rfl, _, _, q4, hpc⟩ := iv
    obtain ⟨m, hm⟩ : ∃ m, (x0 :: l).length = m := ⟨_, rfl⟩
    rw [hm] at q4 ⊢
    have hm1 : (0 : Int) < m := by rw [← hm, List.length_cons]; omega
    have hm0 : ((m : Int) == 0) = false := by simp; omega
    have HM := Lib.hid hm
    clear hm
    obtain ⟨b, o, rfl, hb, hc0⟩ := hpc 0 x0 rfl
    rw [Nat.add_zero] at hc0
    have HP := Lib.hid (show ∀ (i : Nat) (x : Int), (x0 :: l)[i]? = some x → w1.cell? ⟨b, o + i, none⟩ = some (.int .i64 x) from fun i x hi => by
      obtain ⟨b', o', e, _, hc⟩ := hpc i x hi
      injection e with e
      injection e with e1 e2 e3
      subst e1 e2
      exact hc)
    clear hpc
    go_wp2_with fail
    go_quiet (fail)
    go_wp2_with fail
    go_loopw [6, 7, 8] (fun lo hi i wr => ∃ k : Nat, i = .int .i64 k ∧ k ≤ m ∧ lo = .int .i64 (((x0 :: l).take k).foldl min x0) ∧ hi = .int .i64 (((x0 :: l).take k).foldl max x0) ∧ ∃ d, wr = w1.drewN d) (fun _ _ i _ => m - (intOf i).toNat)
    case atStart => exact ⟨0, rfl, by omega, rfl, rfl, _, rfl⟩
    case round =>
      obtain ⟨k, rfl, hk, rfl, rfl, d, rfl⟩ := hrel
      by_cases hlt : k < m
      · obtain ⟨x, hx⟩ := getElem?_ex (l := x0 :: l) (k := k) (by rw [HM.out]; exact hlt)
        have hc := HP.out k x hx
        have S1 := Lib.hid (foldl_step (f := min) (a := x0) hx)
        have S2 := Lib.hid (foldl_step (f := max) (a := x0) hx)
        have i1 : (0 : Int) ≤ (k : Int) := by omega
        have i2 : (k : Int) < (m : Int) := by omega
        have i3 : (k : Int) ≤ 140737488351232 := by omega
        obtain ⟨A, hA⟩ : ∃ A, ((x0 :: l).take k).foldl min x0 = A := ⟨_, rfl⟩
        obtain ⟨B, hB⟩ : ∃ B, ((x0 :: l).take k).foldl max x0 = B := ⟨_, rfl⟩
        rw [hA] at S1 ⊢
        rw [hB] at S2 ⊢
        clear hx hA hB
        by_cases a1 : x < A
        · by_cases a2 : B < x
          · go_wp2_with fail
            go_roundw
            case rel => exact ⟨k + 1, by go_num, by omega, by rw [S1.out, show min A x = x by omega], by rw [S2.out, show max B x = x by omega], _, rfl⟩
            case measure => simp [intOf] <;> omega
          · have a3 : x ≤ B := by omega
            go_wp2_with fail
            go_roundw
            case rel => exact ⟨k + 1, by go_num, by omega, by rw [S1.out, show min A x = x by omega], by rw [S2.out, show max B x = B by omega], _, rfl⟩
            case measure => simp [intOf] <;> omega
        · have a4 : A ≤ x := by omega
          by_cases a2 : B < x
          · go_wp2_with fail
            go_roundw
            case rel => exact ⟨k + 1, by go_num, by omega, by rw [S1.out, show min A x = A by omega], by rw [S2.out, show max B x = x by omega], _, rfl⟩
            case measure => simp [intOf] <;> omega
          · have a3 : x ≤ B := by omega
            go_wp2_with fail
            go_roundw
            case rel => exact ⟨k + 1, by go_num, by omega, by rw [S1.out, show min A x = A by omega], by rw [S2.out, show max B x = B by omega], _, rfl⟩
            case measure => simp [intOf] <;> omega
      · obtain rfl : k = m := by omega
        have T1 := Lib.hid (show ((x0 :: l).take k).foldl min x0 = l.foldl min x0 by rw [List.take_of_length_le (by rw [HM.out]; omega), H1.out])
        have T2 := Lib.hid (show ((x0 :: l).take k).foldl max x0 = l.foldl max x0 by rw [List.take_of_length_le (by rw [HM.out]; omega), H2.out])
        go_wp2_with fail
        exact bodyPost_ret (v := .tuple #[.int .i64 (((x0 :: l).take k).foldl min x0), .int .i64 (((x0 :: l).take k).foldl max x0), .int .i64 0]) (by simp [results, Try.results30, go_sem]) rfl ⟨by rw [T1.out, T2.out], by (repeat (first | with_reducible exact Below.refl _ _ | with_reducible refine Bs ?_ | with_reducible refine Ba ?_ | with_reducible refine Bd ?_ | with_reducible refine Bn ?_ | with_reducible refine Bt B1.out ?_))⟩

end Go.Proofs.Ytdbonlpkmncggaa
