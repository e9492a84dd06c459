/-
  Walks of copseref12.Ends, Weight.
-/
import Derived.Test.YticpmcghdoiceaaRefPathG
namespace Go.Proofs.Yticpmcghdoiceaa
open Go.RowKit

theorem lenL_ne {t : TreeP} (h : IsTree t) : ∃ x l, lenL t = x :: l := by
  have hl := h.len
  obtain ⟨_, _, g, s, q, h1, h2⟩ := h
  obtain ⟨j, n, _, _, hj, hn, hlf⟩ := q.wayLeaf []
  have hm : j ∈ leavesT t t.nodes.length := by
    unfold leavesT
    rw [List.mem_filter, List.mem_range]
    exact ⟨hj, by unfold isLeafAt; rw [hn]; exact hlf⟩
  cases hL : lenL t with
  | nil =>
    unfold lenL at hL
    rw [List.map_eq_nil_iff] at hL
    rw [hL] at hm
    cases hm
  | cons x l => exact ⟨x, l, rfl⟩

theorem lenL_bd {t : TreeP} (h : IsTree t) {x : Int} (hx : x ∈ lenL t) : 0 ≤ x ∧ x ≤ 556198264832 := by
  unfold lenL at hx
  rw [List.mem_map] at hx
  obtain ⟨j, hj, rfl⟩ := hx
  obtain ⟨k, hk⟩ := List.getElem?_of_mem hj
  obtain ⟨_, _, _, _, _, h1, h2, _⟩ := leafAt_facts h hk
  exact ⟨h1, h2⟩

theorem lo_same {x : Int} {l : List Int} (h : x ≤ 4611686018427387904) : (x :: l).foldl min 4611686018427387904 = l.foldl min x := by
  rw [List.foldl_cons, show min 4611686018427387904 x = x by omega]
theorem hi_same {x : Int} {l : List Int} (h : 0 ≤ x) : (x :: l).foldl max 0 = l.foldl max x := by
  rw [List.foldl_cons, show max 0 x = x by omega]

theorem fold_min_self (x : Int) (l : List Int) : (x :: l).foldl min x = l.foldl min x := by rw [List.foldl_cons, show min x x = x by omega]
theorem fold_max_self (x : Int) (l : List Int) : (x :: l).foldl max x = l.foldl max x := by rw [List.foldl_cons, show max x x = x by omega]

set_option maxRecDepth 100000 in
set_option maxHeartbeats 2000000 in
theorem rends12_any (v : Value) (t : TreeP) (w : World) (h : TreeR w v t) :
    Calls Try.prog 46 #[v] w fun e w' => e = .returned (.tuple #[.int .i64 (if treeB t = true then (lenL t).foldl min 4611686018427387904 else 0), .int .i64 (if treeB t = true then (lenL t).foldl max 0 else 0), .int .i64 (if treeB t = true then 0 else 100)]) ∧ Below w.heap.size w w' := by
  have HTR := Lib.hid h
  have HLE := Lib.hid (fun W (hW : TreeR W v t) => rlengths_any v t W hW)
  obtain ⟨nv, rfl, ad, cc, rfl, _, _, q3, _⟩ := h
  obtain ⟨TB, hTB⟩ : ∃ TB, treeB t = TB := ⟨_, rfl⟩
  rw [hTB] at HLE ⊢
  cases TB with
  | false =>
    simp only [Bool.false_eq_true, if_false] at HLE ⊢
    clear hTB
    generalize t.nodes.length = n at *
    generalize t.dim = D at *
    go_enter Try.func46, Try.ntmps46
    go_wp2_with fail
    (with_reducible refine (HLE.out _ (HTR.out.below (by (repeat (first | with_reducible exact Below.refl _ _ | ((with_reducible refine Below.setCell ?_ ?_ _); rotate_left; (focus (first | omega | (simp; done) | (simp; omega)))) | ((with_reducible refine Below.alloc ?_ ?_ _); rotate_left; (focus (first | omega | (simp; done) | (simp; omega)))) | (with_reducible refine Below.drew ?_) | (with_reducible refine below_drewN ?_ _)))))).mono ?_); rintro e w1 ⟨vo, rfl, iv, b1⟩; have s1 : w.heap.size + 1 ≤ w1.heap.size := (by have := b1.size; first | omega | (simp at this; omega)); have B1 := Lib.hid (show Below w.heap.size w w1 from below_tr (by (repeat (first | with_reducible exact Below.refl _ _ | ((with_reducible refine Below.setCell ?_ ?_ _); rotate_left; (focus (first | omega | (simp; done) | (simp; omega)))) | ((with_reducible refine Below.alloc ?_ ?_ _); rotate_left; (focus (first | omega | (simp; done) | (simp; omega)))) | (with_reducible refine Below.drew ?_) | (with_reducible refine below_drewN ?_ _)))) (b1.mono (by first | omega | (simp; done) | (simp; omega)))); have c1_0 : w1.cell? ⟨w.heap.size, 0, none⟩ = some (.int .i64 D) := (b1.cell (by first | omega | (simp; done) | (simp; omega))).trans (by go_simp); have l1_0 : w.heap.size < w1.heap.size := (by omega); have n1_0 : w.heap.size ≠ w1.heap.size := (by omega); have m1_0 : w1.heap.size ≠ w.heap.size := (by omega); clear b1
    obtain ⟨pa, pc, rfl, _⟩ := iv
    go_wp2_with fail
    exact bodyPost_ret (v := .tuple #[.int .i64 0, .int .i64 0, .int .i64 100]) (by simp [results, Try.results46, go_sem]) rfl ⟨rfl, by (repeat (first | with_reducible exact Below.refl _ _ | ((with_reducible refine Below.setCell ?_ ?_ _); rotate_left; (focus (first | omega | (simp; done) | (simp; omega)))) | ((with_reducible refine Below.alloc ?_ ?_ _); rotate_left; (focus (first | omega | (simp; done) | (simp; omega)))) | (with_reducible refine Below.drew ?_) | (with_reducible refine below_drewN ?_ _) | ((with_reducible refine Below.trans ?_ (Below.mono B1.out ?_)); rotate_left; (focus (first | omega | (simp; done) | (simp; omega))))))⟩
  | true =>
    simp only [if_true] at HLE ⊢
    have ht := treeB_true.1 hTB
    obtain ⟨x0, l, hL⟩ := lenL_ne ht
    have hbd : ∀ x ∈ lenL t, 0 ≤ x ∧ x ≤ 556198264832 := fun x hx => lenL_bd ht hx
    rw [hL] at HLE hbd ⊢
    have hx0 := hbd x0 (by simp)
    rw [lo_same (by omega), hi_same hx0.1]
    have H1 := Lib.hid (fold_min_self x0 l)
    have H2 := Lib.hid (fold_max_self x0 l)
    clear hTB ht hL hbd hx0
    generalize t.nodes.length = n at *
    generalize t.dim = D at *
    go_enter Try.func46, Try.ntmps46
    go_wp2_with fail
    (with_reducible refine (HLE.out _ (HTR.out.below (by (repeat (first | with_reducible exact Below.refl _ _ | ((with_reducible refine Below.setCell ?_ ?_ _); rotate_left; (focus (first | omega | (simp; done) | (simp; omega)))) | ((with_reducible refine Below.alloc ?_ ?_ _); rotate_left; (focus (first | omega | (simp; done) | (simp; omega)))) | (with_reducible refine Below.drew ?_) | (with_reducible refine below_drewN ?_ _)))))).mono ?_); rintro e w1 ⟨vo, rfl, iv, b1⟩; have s1 : w.heap.size + 1 ≤ w1.heap.size := (by have := b1.size; first | omega | (simp at this; omega)); have B1 := Lib.hid (show Below w.heap.size w w1 from below_tr (by (repeat (first | with_reducible exact Below.refl _ _ | ((with_reducible refine Below.setCell ?_ ?_ _); rotate_left; (focus (first | omega | (simp; done) | (simp; omega)))) | ((with_reducible refine Below.alloc ?_ ?_ _); rotate_left; (focus (first | omega | (simp; done) | (simp; omega)))) | (with_reducible refine Below.drew ?_) | (with_reducible refine below_drewN ?_ _)))) (b1.mono (by first | omega | (simp; done) | (simp; omega)))); have c1_0 : w1.cell? ⟨w.heap.size, 0, none⟩ = some (.int .i64 D) := (b1.cell (by first | omega | (simp; done) | (simp; omega))).trans (by go_simp); have l1_0 : w.heap.size < w1.heap.size := (by omega); have n1_0 : w.heap.size ≠ w1.heap.size := (by omega); have m1_0 : w1.heap.size ≠ w.heap.size := (by omega); clear b1
    obtain ⟨pa, pc, rfl, _, _, q4, hpc⟩ := iv
    obtain ⟨m, hm⟩ : ∃ m, (x0 :: l).length = m := ⟨_, rfl⟩
    rw [hm] at q4 ⊢
    have hm1 : (0 : Int) < m := by rw [← hm, List.length_cons]; omega
    have hm0 : ((m : Int) == 0) = false := by simp; omega
    have HM := Lib.hid hm
    clear hm
    obtain ⟨b, o, rfl, hb, hc0⟩ := hpc 0 x0 rfl
    rw [Nat.add_zero] at hc0
    have HP := Lib.hid (show ∀ (i : Nat) (x : Int), (x0 :: l)[i]? = some x → w1.cell? ⟨b, o + i, none⟩ = some (.int .i64 x) from fun i x hi => by
      obtain ⟨b', o', e, _, hc⟩ := hpc i x hi
      injection e with e
      injection e with e1 e2 e3
      subst e1 e2
      exact hc)
    clear hpc
    go_wp2_with fail
    go_quiet (fail)
    go_wp2_with fail
    go_loopw [6, 7, 8] (fun lo hi i wr => ∃ k : Nat, i = .int .i64 k ∧ k ≤ m ∧ lo = .int .i64 (((x0 :: l).take k).foldl min x0) ∧ hi = .int .i64 (((x0 :: l).take k).foldl max x0) ∧ ∃ d, wr = w1.drewN d) (fun _ _ i _ => m - (intOf i).toNat)
    case atStart => exact ⟨0, rfl, by omega, rfl, rfl, _, rfl⟩
    case round =>
      obtain ⟨k, rfl, hk, rfl, rfl, d, rfl⟩ := hrel
      by_cases hlt : k < m
      · obtain ⟨x, hx⟩ := getElem?_ex (l := x0 :: l) (k := k) (by rw [HM.out]; exact hlt)
        have hc := HP.out k x hx
        have S1 := Lib.hid (foldl_step (f := min) (a := x0) hx)
        have S2 := Lib.hid (foldl_step (f := max) (a := x0) hx)
        have i1 : (0 : Int) ≤ (k : Int) := by omega
        have i2 : (k : Int) < (m : Int) := by omega
        have i3 : (k : Int) ≤ 140737488351232 := by omega
        obtain ⟨A, hA⟩ : ∃ A, ((x0 :: l).take k).foldl min x0 = A := ⟨_, rfl⟩
        obtain ⟨B, hB⟩ : ∃ B, ((x0 :: l).take k).foldl max x0 = B := ⟨_, rfl⟩
        rw [hA] at S1 ⊢
        rw [hB] at S2 ⊢
        clear hx hA hB
        by_cases a1 : x < A
        · by_cases a2 : B < x
          · go_wp2_with fail
            go_roundw
            case rel => exact ⟨k + 1, by go_num, by omega, by rw [S1.out, show min A x = x by omega], by rw [S2.out, show max B x = x by omega], _, rfl⟩
            case measure => simp [intOf] <;> omega
          · have a3 : x ≤ B := by omega
            go_wp2_with fail
            go_roundw
            case rel => exact ⟨k + 1, by go_num, by omega, by rw [S1.out, show min A x = x by omega], by rw [S2.out, show max B x = B by omega], _, rfl⟩
            case measure => simp [intOf] <;> omega
        · have a4 : A ≤ x := by omega
          by_cases a2 : B < x
          · go_wp2_with fail
            go_roundw
            case rel => exact ⟨k + 1, by go_num, by omega, by rw [S1.out, show min A x = A by omega], by rw [S2.out, show max B x = x by omega], _, rfl⟩
            case measure => simp [intOf] <;> omega
          · have a3 : x ≤ B := by omega
            go_wp2_with fail
            go_roundw
            case rel => exact ⟨k + 1, by go_num, by omega, by rw [S1.out, show min A x = A by omega], by rw [S2.out, show max B x = B by omega], _, rfl⟩
            case measure => simp [intOf] <;> omega
      · obtain rfl : k = m := by omega
        have T1 := Lib.hid (show ((x0 :: l).take k).foldl min x0 = l.foldl min x0 by rw [List.take_of_length_le (by rw [HM.out]; omega), H1.out])
        have T2 := Lib.hid (show ((x0 :: l).take k).foldl max x0 = l.foldl max x0 by rw [List.take_of_length_le (by rw [HM.out]; omega), H2.out])
        go_wp2_with fail
        exact bodyPost_ret (v := .tuple #[.int .i64 (((x0 :: l).take k).foldl min x0), .int .i64 (((x0 :: l).take k).foldl max x0), .int .i64 0]) (by simp [results, Try.results46, go_sem]) rfl ⟨by rw [T1.out, T2.out], by (repeat (first | with_reducible exact Below.refl _ _ | ((with_reducible refine Below.setCell ?_ ?_ _); rotate_left; (focus (first | omega | (simp; done) | (simp; omega)))) | ((with_reducible refine Below.alloc ?_ ?_ _); rotate_left; (focus (first | omega | (simp; done) | (simp; omega)))) | (with_reducible refine Below.drew ?_) | (with_reducible refine below_drewN ?_ _) | ((with_reducible refine Below.trans ?_ (Below.mono B1.out ?_)); rotate_left; (focus (first | omega | (simp; done) | (simp; omega))))))⟩

theorem leaves_ne {t : TreeP} (h : IsTree t) : 1 ≤ (leavesT t t.nodes.length).length := by
  obtain ⟨x, l, e⟩ := lenL_ne h
  have : (lenL t).length = (leavesT t t.nodes.length).length := by unfold lenL; rw [List.length_map]
  rw [e] at this
  simp at this
  omega

set_option maxRecDepth 100000 in
set_option maxHeartbeats 2000000 in
theorem rweight_any (v : Value) (t : TreeP) (w : World) (h : TreeR w v t) :
    Calls Try.prog 48 #[v] w fun e w' => e = .returned (.tuple #[.int .i64 (if treeB t = true then sumI (wtL t) else 0), .int .i64 (if treeB t = true then 0 else 100)]) ∧ Below w.heap.size w w' := by
  have HTR := Lib.hid h
  have HLN := Lib.hid (fun W (hW : TreeR W v t) => rlengths_any v t W hW)
  have HLE := Lib.hid (fun W (hW : TreeR W v t) => rleaves_any v t W hW)
  obtain ⟨nv, rfl, ad, cc, rfl, _, _, q3, _⟩ := h
  obtain ⟨TB, hTB⟩ : ∃ TB, treeB t = TB := ⟨_, rfl⟩
  rw [hTB] at HLE HLN ⊢
  cases TB with
  | false =>
    simp only [Bool.false_eq_true, if_false] at HLE HLN ⊢
    clear hTB
    generalize t.nodes.length = n at *
    generalize t.dim = D at *
    go_enter Try.func48, Try.ntmps48
    go_wp2_with fail
    (with_reducible refine (HLN.out _ (HTR.out.below (by (repeat (first | with_reducible exact Below.refl _ _ | ((with_reducible refine Below.setCell ?_ ?_ _); rotate_left; (focus (first | omega | (simp; done) | (simp; omega)))) | ((with_reducible refine Below.alloc ?_ ?_ _); rotate_left; (focus (first | omega | (simp; done) | (simp; omega)))) | (with_reducible refine Below.drew ?_) | (with_reducible refine below_drewN ?_ _)))))).mono ?_); rintro e w1 ⟨vo, rfl, iv, b1⟩; have s1 : w.heap.size + 1 ≤ w1.heap.size := (by have := b1.size; first | omega | (simp at this; omega)); have B1 := Lib.hid (show Below w.heap.size w w1 from below_tr (by (repeat (first | with_reducible exact Below.refl _ _ | ((with_reducible refine Below.setCell ?_ ?_ _); rotate_left; (focus (first | omega | (simp; done) | (simp; omega)))) | ((with_reducible refine Below.alloc ?_ ?_ _); rotate_left; (focus (first | omega | (simp; done) | (simp; omega)))) | (with_reducible refine Below.drew ?_) | (with_reducible refine below_drewN ?_ _)))) (b1.mono (by first | omega | (simp; done) | (simp; omega)))); have c1_0 : w1.cell? ⟨w.heap.size, 0, none⟩ = some (.int .i64 D) := (b1.cell (by first | omega | (simp; done) | (simp; omega))).trans (by go_simp); have l1_0 : w.heap.size < w1.heap.size := (by omega); have n1_0 : w.heap.size ≠ w1.heap.size := (by omega); have m1_0 : w1.heap.size ≠ w.heap.size := (by omega); clear b1
    obtain ⟨pa, pc, rfl, _⟩ := iv
    go_wp2_with fail
    exact bodyPost_ret (v := .tuple #[.int .i64 0, .int .i64 100]) (by simp [results, Try.results48, go_sem]) rfl ⟨rfl, by (repeat (first | with_reducible exact Below.refl _ _ | ((with_reducible refine Below.setCell ?_ ?_ _); rotate_left; (focus (first | omega | (simp; done) | (simp; omega)))) | ((with_reducible refine Below.alloc ?_ ?_ _); rotate_left; (focus (first | omega | (simp; done) | (simp; omega)))) | (with_reducible refine Below.drew ?_) | (with_reducible refine below_drewN ?_ _) | ((with_reducible refine Below.trans ?_ (Below.mono B1.out ?_)); rotate_left; (focus (first | omega | (simp; done) | (simp; omega))))))⟩
  | true =>
    simp only [if_true] at HLE HLN ⊢
    have ht := treeB_true.1 hTB
    have hlen := ht.len
    have hne := leaves_ne ht
    have HFA := Lib.hid (show ∀ k j : Nat, (leavesT t t.nodes.length)[k]? = some j → _ from fun k j hj => leafAt_facts ht hj)
    have HWT := Lib.hid (show ∀ (k j : Nat) nd, (leavesT t t.nodes.length)[k]? = some j → t.nodes[j]? = some nd → _ from fun k j nd hj hn => wtL_at ht hj hn)
    have HWB := Lib.hid (show ∀ k, _ from fun k => wtL_bd ht k)
    have HLA := Lib.hid (show ∀ k j : Nat, (leavesT t t.nodes.length)[k]? = some j → (lenL t)[k]? = some (lenOf t j) from fun k j hj => lenL_at hj)
    have HLL := Lib.hid (show (lenL t).length = (leavesT t t.nodes.length).length by unfold lenL; rw [List.length_map])
    have HWL := Lib.hid (show (wtL t).length = (leavesT t t.nodes.length).length by unfold wtL; rw [List.length_map])
    have hcl : (leavesT t t.nodes.length).length ≤ t.nodes.length := by unfold leavesT; have := List.length_filter_le (isLeafAt t) (List.range t.nodes.length); simpa using this
    obtain ⟨b, o, rfl⟩ := HTR.out.addr (i := 0) (by omega)
    obtain ⟨LV, hLV⟩ : ∃ LV, leavesT t t.nodes.length = LV := ⟨_, rfl⟩
    rw [hLV] at HLE HFA HWT HLA HLL HWL hcl hne
    clear hTB ht hLV
    obtain ⟨n, hn⟩ : ∃ n, t.nodes.length = n := ⟨_, rfl⟩
    rw [hn] at HTR HLE HLN hlen q3 hcl ⊢
    have HL := Lib.hid hn
    obtain ⟨D, hD⟩ : ∃ D, t.dim = D := ⟨_, rfl⟩
    rw [hD] at HTR HLE HLN ⊢
    clear hn hD
    have hnI : (n : Int) ≤ 127 := by omega
    obtain ⟨m, hm⟩ : ∃ m, LV.length = m := ⟨_, rfl⟩
    rw [hm] at hcl HLL HWL hne
    have HML := Lib.hid hm
    clear hm
    have hm0 : ((m : Int) == 0) = false := by simp; omega
    obtain ⟨RV, hRV⟩ : ∃ RV, sumI (wtL t) = RV := ⟨_, rfl⟩
    rw [hRV]
    have HRV := Lib.hid hRV
    clear hRV
    go_enter Try.func48, Try.ntmps48
    go_wp2_with fail
    (with_reducible refine (HLN.out _ (HTR.out.below (by (repeat (first | with_reducible exact Below.refl _ _ | ((with_reducible refine Below.setCell ?_ ?_ _); rotate_left; (focus (first | omega | (simp; done) | (simp; omega)))) | ((with_reducible refine Below.alloc ?_ ?_ _); rotate_left; (focus (first | omega | (simp; done) | (simp; omega)))) | (with_reducible refine Below.drew ?_) | (with_reducible refine below_drewN ?_ _)))))).mono ?_); rintro e w1 ⟨vo, rfl, iv, b1⟩; have s1 : w.heap.size + 1 ≤ w1.heap.size := (by have := b1.size; first | omega | (simp at this; omega)); have B1 := Lib.hid (show Below w.heap.size w w1 from below_tr (by (repeat (first | with_reducible exact Below.refl _ _ | ((with_reducible refine Below.setCell ?_ ?_ _); rotate_left; (focus (first | omega | (simp; done) | (simp; omega)))) | ((with_reducible refine Below.alloc ?_ ?_ _); rotate_left; (focus (first | omega | (simp; done) | (simp; omega)))) | (with_reducible refine Below.drew ?_) | (with_reducible refine below_drewN ?_ _)))) (b1.mono (by first | omega | (simp; done) | (simp; omega)))); have c1_0 : w1.cell? ⟨w.heap.size, 0, none⟩ = some (.int .i64 D) := (b1.cell (by first | omega | (simp; done) | (simp; omega))).trans (by go_simp); have c1_1 : w1.cell? ⟨w.heap.size, 1, none⟩ = some (.slice (some ⟨b, o, none⟩) n cc) := (b1.cell (by first | omega | (simp; done) | (simp; omega))).trans (by go_simp); have l1_0 : w.heap.size < w1.heap.size := (by omega); have n1_0 : w.heap.size ≠ w1.heap.size := (by omega); have m1_0 : w1.heap.size ≠ w.heap.size := (by omega); clear b1
    have IV := Lib.hid iv
    obtain ⟨pa, pc, rfl, _⟩ := iv
    rw [HLL.out] at IV ⊢
    go_wp2_with fail
    (with_reducible refine (HLE.out _ (HTR.out.below (by (repeat (first | with_reducible exact Below.refl _ _ | ((with_reducible refine Below.setCell ?_ ?_ _); rotate_left; (focus (first | omega | (simp; done) | (simp; omega)))) | ((with_reducible refine Below.alloc ?_ ?_ _); rotate_left; (focus (first | omega | (simp; done) | (simp; omega)))) | (with_reducible refine Below.drew ?_) | (with_reducible refine below_drewN ?_ _) | ((with_reducible refine Below.trans ?_ (Below.mono B1.out ?_)); rotate_left; (focus (first | omega | (simp; done) | (simp; omega))))))))).mono ?_); rintro e w2 ⟨vo2, rfl, iv2, b2⟩; have s2 : w1.heap.size ≤ w2.heap.size := (by have := b2.size; first | omega | (simp at this; omega)); have B2 := Lib.hid (show Below w.heap.size w w2 from below_tr (by (repeat (first | with_reducible exact Below.refl _ _ | ((with_reducible refine Below.setCell ?_ ?_ _); rotate_left; (focus (first | omega | (simp; done) | (simp; omega)))) | ((with_reducible refine Below.alloc ?_ ?_ _); rotate_left; (focus (first | omega | (simp; done) | (simp; omega)))) | (with_reducible refine Below.drew ?_) | (with_reducible refine below_drewN ?_ _) | ((with_reducible refine Below.trans ?_ (Below.mono B1.out ?_)); rotate_left; (focus (first | omega | (simp; done) | (simp; omega))))))) (b2.mono (by first | omega | (simp; done) | (simp; omega)))); have c2_0 : w2.cell? ⟨w.heap.size, 0, none⟩ = some (.int .i64 D) := (b2.cell (by first | omega | (simp; done) | (simp; omega))).trans (by go_simp); have c2_1 : w2.cell? ⟨w.heap.size, 1, none⟩ = some (.slice (some ⟨b, o, none⟩) n cc) := (b2.cell (by first | omega | (simp; done) | (simp; omega))).trans (by go_simp); have l2_0 : w.heap.size < w2.heap.size := (by omega); have n2_0 : w.heap.size ≠ w2.heap.size := (by omega); have m2_0 : w2.heap.size ≠ w.heap.size := (by omega); have IV := Lib.hid ((IV.out.below (by (repeat (first | with_reducible exact Below.refl _ _ | ((with_reducible refine Below.setCell ?_ ?_ _); rotate_left; (focus (first | omega | (simp; done) | (simp; omega)))) | ((with_reducible refine Below.alloc ?_ ?_ _); rotate_left; (focus (first | omega | (simp; done) | (simp; omega)))) | (with_reducible refine Below.drew ?_) | (with_reducible refine below_drewN ?_ _))))).below b2); clear b2
    have IV2 := Lib.hid iv2
    obtain ⟨pa2, pc2, rfl, _⟩ := iv2
    rw [List.length_map, HML.out] at IV2 ⊢
    go_wp2_with fail
    go_loopw [6, 7] (fun s i wr => ∃ k : Nat, i = .int .i64 k ∧ k ≤ m ∧ s = .int .i64 (sumI ((wtL t).take k)) ∧ ∃ d, wr = w2.drewN d) (fun _ i _ => m - (intOf i).toNat)
    case atStart => exact ⟨0, rfl, by omega, rfl, 0, rfl⟩
    case round =>
      obtain ⟨k, rfl, hk, rfl, d, rfl⟩ := hrel
      by_cases hlt : k < m
      · obtain ⟨j, hj⟩ := getElem?_ex (l := LV) (k := k) (by rw [HML.out]; exact hlt)
        obtain ⟨nd, hnd, _, n1, n2, n3, n4, n5⟩ := HFA.out k j hj
        obtain ⟨wt1, wt2, wt3⟩ := HWT.out k j nd hj hnd
        obtain ⟨sb1, sb2⟩ := HWB.out k
        have hjn : j < n := by have := (List.getElem?_eq_some_iff.1 hnd).1; have := HL.out; omega
        have HST := Lib.hid (show sumI ((wtL t).take (k + 1)) = sumI ((wtL t).take k) + nd.size * lenOf t j by rw [take_snoc' wt1, sumI_snoc])
        obtain ⟨hbw, hat⟩ := HTR.out.node hnd
        obtain ⟨_, _, _, _, _, _, _, e40⟩ := hat.val
        have e4 := (B2.out.cell (p := ⟨b, o + j * 5 + 4, none⟩) hbw).trans e40
        obtain ⟨_, _, e, _, _, _, g1⟩ := IV.out
        rw [HLL.out] at e
        injection e with q1 q2 q3'
        subst q1 q3'
        obtain ⟨xb, xo, rfl, xl, xc⟩ := g1 k (lenOf t j) (HLA.out k j hj)
        obtain ⟨_, _, e, _, _, _, g2⟩ := IV2.out
        rw [List.length_map, HML.out] at e
        injection e with q1 q2 q3'
        subst q1 q3'
        obtain ⟨yb, yo, rfl, yl, yc⟩ := g2 k (j : Int) (by rw [List.getElem?_map, hj]; rfl)
        have i1 : (0 : Int) ≤ (k : Int) := by omega
        have i2 : (k : Int) < (m : Int) := by omega
        have i3 : (0 : Int) ≤ (j : Int) := by omega
        have i4 : (j : Int) < (n : Int) := by omega
        generalize sumI ((wtL t).take k) = S at *
        obtain ⟨p, hp⟩ : ∃ p, nd.size * lenOf t j = p := ⟨_, rfl⟩
        rw [hp] at wt2 wt3 HST
        rw [Int.mul_comm] at hp
        generalize lenOf t j = lj at *
        generalize nd.size = sz at *
        clear hj hnd n1 n2 n3 n4 n5 wt1 hat e40 g1 g2
        go_wp2_with fail
        go_quiet (fail)
        go_wp2_with fail
        go_roundw
        case rel => exact ⟨k + 1, by go_num, by omega, by rw [HST.out], _, rfl⟩
        case measure => simp [intOf] <;> omega
      · obtain rfl : k = m := by omega
        have G := Lib.hid (show sumI ((wtL t).take k) = RV by rw [← HRV.out, List.take_of_length_le (by rw [HWL.out]; omega)])
        generalize sumI ((wtL t).take k) = S at *
        go_wp2_with fail
        exact bodyPost_ret (v := .tuple #[.int .i64 S, .int .i64 0]) (by simp [results, Try.results48, go_sem]) rfl ⟨by rw [G.out], by (repeat (first | with_reducible exact Below.refl _ _ | ((with_reducible refine Below.setCell ?_ ?_ _); rotate_left; (focus (first | omega | (simp; done) | (simp; omega)))) | ((with_reducible refine Below.alloc ?_ ?_ _); rotate_left; (focus (first | omega | (simp; done) | (simp; omega)))) | (with_reducible refine Below.drew ?_) | (with_reducible refine below_drewN ?_ _) | ((with_reducible refine Below.trans ?_ (Below.mono B2.out ?_)); rotate_left; (focus (first | omega | (simp; done) | (simp; omega))))))⟩
end Go.Proofs.Yticpmcghdoiceaa
