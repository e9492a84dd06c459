/-
  What the laws of layer 12 share: copseref10.Much of an argument, copselaw12.three, copselaw12.lives.
-/
import Derived.Test.YticpmcghdoiceaaPathE
import Derived.Test.YticpmcghdoiceaaArgTree
import Derived.Test.YticpmcghdoiceaaSame01
namespace Go.Proofs.Yticpmcghdoiceaa
open Go.RowKit

set_option maxHeartbeats 1000000 in
theorem rmuch_any (v : Value) (t : TreeP) (w : World) (h : ArgTree w v t) :
    Calls Try.prog 38 #[v] w fun e w' => e = .returned (.bool (muchN t.nodes)) ∧ Below w.heap.size w w' := by
  obtain ⟨nv, rfl, ad, cc, rfl, hc1, hc2, h⟩ := h
  have H := Lib.hid h
  have HN := Lib.hid (show muchN t.nodes = (decide (200 < t.nodes.length) || t.nodes.any fun n => decide (20 < n.coef.length)) from rfl)
  clear h
  obtain ⟨M, hM⟩ : ∃ M, muchN t.nodes = M := ⟨_, rfl⟩
  rw [hM] at HN ⊢
  clear hM
  obtain ⟨n, hn⟩ : ∃ n, t.nodes.length = n := ⟨_, rfl⟩
  rw [hn] at HN hc1 ⊢
  have HL := Lib.hid hn
  clear hn
  generalize t.dim = D at *
  have hnb : (n : Int) ≤ 9223372036854775807 := by omega
  by_cases h2 : 200 < n
  · have G := Lib.hid (show M = true by rw [HN.out]; simp [h2])
    have h3 : (200 : Int) < n := by omega
    go_enter Try.func38, Try.ntmps38
    go_wp2_with fail
    go_ret
    exact ⟨by rw [G.out]; rfl, by (repeat (first | with_reducible exact Below.refl _ _ | ((with_reducible refine Below.setCell ?_ ?_ _); rotate_left; (focus (first | omega | (simp; done) | (simp; omega)))) | ((with_reducible refine Below.alloc ?_ ?_ _); rotate_left; (focus (first | omega | (simp; done) | (simp; omega)))) | (with_reducible refine Below.drew ?_) | (with_reducible refine below_drewN ?_ _)))⟩
  · have h3 : (n : Int) ≤ 200 := by omega
    go_enter Try.func38, Try.ntmps38
    go_wp2_with fail
    go_loopw [3] (fun i wr => ∃ k : Nat, i = .int .i64 k ∧ k ≤ n ∧ (∀ j nd, j < k → t.nodes[j]? = some nd → nd.coef.length ≤ 20) ∧ wr = w.alloc (.cells #[.int .i64 D, .slice ad n cc] 51)) (fun i _ => n - (intOf i).toNat)
    case atStart => exact ⟨0, rfl, by omega, fun j nd h => by omega, rfl⟩
    case round =>
      obtain ⟨k, rfl, hk, hall, rfl⟩ := hrel
      have HA := Lib.hid hall
      clear hall
      by_cases hlt : k < n
      · obtain ⟨nd, hnd⟩ := getElem?_ex (l := t.nodes) (k := k) (by rw [HL.out]; exact hlt)
        obtain ⟨b, o, rfl, hb, cv, ⟨a', c', rfl, q1, q2, _⟩, g1, _⟩ := H.out k nd hnd
        have HND := Lib.hid hnd
        have i1 : (0 : Int) ≤ (k : Int) := by omega
        have i2 : (k : Int) < (n : Int) := by omega
        have hbz : b ≠ w.heap.size := by omega
        clear hnd
        obtain ⟨cl, hcl⟩ : ∃ cl, nd.coef.length = cl := ⟨_, rfl⟩
        rw [hcl] at g1 q1
        have HCL := Lib.hid hcl
        clear hcl
        by_cases h4 : 20 < cl
        · have G := Lib.hid (show M = true by
            rw [HN.out, Bool.or_eq_true, List.any_eq_true]
            exact .inr ⟨nd, List.mem_of_getElem? HND.out, by rw [HCL.out]; simp [h4]⟩)
          have h5 : (20 : Int) < cl := by omega
          go_wp2_with fail
          go_ret
          exact ⟨by rw [G.out]; rfl, by (repeat (first | with_reducible exact Below.refl _ _ | ((with_reducible refine Below.setCell ?_ ?_ _); rotate_left; (focus (first | omega | (simp; done) | (simp; omega)))) | ((with_reducible refine Below.alloc ?_ ?_ _); rotate_left; (focus (first | omega | (simp; done) | (simp; omega)))) | (with_reducible refine Below.drew ?_) | (with_reducible refine below_drewN ?_ _)))⟩
        · have h5 : (cl : Int) ≤ 20 := by omega
          go_wp2_with fail
          go_roundw
          case rel =>
            refine ⟨k + 1, by go_num, by omega, fun j nd' hj hnd' => ?_, trivial⟩
            rcases Nat.lt_or_ge j k with h | h
            · exact HA.out j nd' h hnd'
            · obtain rfl : j = k := by omega
              rw [HND.out] at hnd'
              injection hnd' with hnd'
              subst hnd'
              rw [HCL.out]
              omega
          case measure => simp [intOf] <;> omega
      · obtain rfl : k = n := by omega
        have G := Lib.hid (show M = false by
          rw [HN.out, Bool.or_eq_false_iff, List.any_eq_false]
          refine ⟨by simp; omega, fun nd hnd => ?_⟩
          obtain ⟨i, hi⟩ := List.getElem?_of_mem hnd
          have := HA.out i nd (by have := (List.getElem?_eq_some_iff.1 hi).1; have := HL.out; omega) hi
          simp; omega)
        go_wp2_with fail
        go_ret
        exact ⟨by rw [G.out]; rfl, by (repeat (first | with_reducible exact Below.refl _ _ | ((with_reducible refine Below.setCell ?_ ?_ _); rotate_left; (focus (first | omega | (simp; done) | (simp; omega)))) | ((with_reducible refine Below.alloc ?_ ?_ _); rotate_left; (focus (first | omega | (simp; done) | (simp; omega)))) | (with_reducible refine Below.drew ?_) | (with_reducible refine below_drewN ?_ _)))⟩

def threeP : TreeP := ⟨1, [⟨[1], 3, 1, 2, 3⟩, ⟨[], 0, 0, 0, 2⟩, ⟨[], 0, 0, 0, 1⟩]⟩

set_option maxRecDepth 100000 in
set_option maxHeartbeats 1000000 in
theorem three_any (w : World) : Calls Try.prog 84 #[] w fun e w' => ∃ ad cc, e = .returned (.agg #[.int .i64 1, .slice ad 3 cc]) ∧ TreeR w' (.agg #[.int .i64 1, .slice ad 3 cc]) threeP ∧ Below w.heap.size w w' := by
  go_enter Try.func84, Try.ntmps84
  go_wp2_with fail
  refine bodyPost_ret (v := .agg #[.int .i64 1, .slice (some ⟨w.heap.size + 1 + 1, 0, none⟩) 3 3]) (by simp [results, Try.results84, go_sem]) rfl ⟨_, _, rfl, ⟨_, rfl, _, _, rfl, by decide, by decide, by decide, ?_⟩, by (repeat (first | with_reducible exact Below.refl _ _ | ((with_reducible refine Below.setCell ?_ ?_ _); rotate_left; (focus (first | omega | (simp; done) | (simp; omega)))) | ((with_reducible refine Below.alloc ?_ ?_ _); rotate_left; (focus (first | omega | (simp; done) | (simp; omega)))) | (with_reducible refine Below.drew ?_) | (with_reducible refine below_drewN ?_ _)))⟩
  have h0 : Ints .i64 (((w.alloc (.cells #[.int .i64 1, .slice (some ⟨w.heap.size + 1 + 1, 0, none⟩) 3 3] 51)).alloc (.cells #[.int .i64 1] 3)).alloc (.cells #[.slice (some ⟨w.heap.size + 1, 0, none⟩) 1 1, .int .i64 3, .int .i64 1, .int .i64 2, .int .i64 3, .slice none 0 0, .int .i64 0, .int .i64 0, .int .i64 0, .int .i64 2, .slice none 0 0, .int .i64 0, .int .i64 0, .int .i64 0, .int .i64 1] 65)) (.slice (some ⟨w.heap.size + 1, 0, none⟩) 1 1) [1] :=
    (Ints.new' .i64 (w.alloc (.cells #[.int .i64 1, .slice (some ⟨w.heap.size + 1 + 1, 0, none⟩) 3 3] 51)) 3 #[.int .i64 1] [1] (w.heap.size + 1) 1 1 (by simp) (by rfl) (by rfl) (by omega) (by omega)).below (by (repeat (first | with_reducible exact Below.refl _ _ | ((with_reducible refine Below.setCell ?_ ?_ _); rotate_left; (focus (first | omega | (simp; done) | (simp; omega)))) | ((with_reducible refine Below.alloc ?_ ?_ _); rotate_left; (focus (first | omega | (simp; done) | (simp; omega)))) | (with_reducible refine Below.drew ?_) | (with_reducible refine below_drewN ?_ _))))
  intro i n hi
  match i, hi with
  | 0, hi =>
    obtain rfl : (⟨[1], 3, 1, 2, 3⟩ : NodeP) = n := by simpa [threeP] using hi
    exact ⟨_, _, rfl, by simp, _, h0, by go_simp, by go_simp, by go_simp, by go_simp, by go_simp⟩
  | 1, hi =>
    obtain rfl : (⟨[], 0, 0, 0, 2⟩ : NodeP) = n := by simpa [threeP] using hi
    exact ⟨_, _, rfl, by simp, _, ints_nil _ _ none 0 (by omega), by go_simp, by go_simp, by go_simp, by go_simp, by go_simp⟩
  | 2, hi =>
    obtain rfl : (⟨[], 0, 0, 0, 1⟩ : NodeP) = n := by simpa [threeP] using hi
    exact ⟨_, _, rfl, by simp, _, ints_nil _ _ none 0 (by omega), by go_simp, by go_simp, by go_simp, by go_simp, by go_simp⟩
  | i + 3, hi => simp [threeP] at hi

theorem three_tree : IsTree threeP := by
  have q1 : Sub threeP 1 2 0 2 := Sub.leaf (n := ⟨[], 0, 0, 0, 2⟩) rfl rfl
  have q2 : Sub threeP 2 3 0 1 := Sub.leaf (n := ⟨[], 0, 0, 0, 1⟩) rfl rfl
  have q0 : Sub threeP 0 3 (1 + max 0 0) 3 := Sub.node (n := ⟨[1], 3, 1, 2, 3⟩) rfl rfl rfl q1 rfl q2 rfl
  exact ⟨by decide, by decide, _, _, q0, by decide, by decide⟩

theorem three_B : treeB threeP = true := treeB_true.2 three_tree
theorem three_E2 : pathE threeP [2] = 0 := by unfold pathE; rw [three_B]; rfl
theorem three_E3 : pathE threeP [3] = 0 := by unfold pathE; rw [three_B]; rfl
theorem three_V2 : lenV threeP [2] = 2147483648 := by
  unfold lenV
  rw [show (wayL threeP [2]).getLast? = some 1 from rfl]
  rfl
theorem three_V3 : lenV threeP [3] = 1073741824 := by
  unfold lenV
  rw [show (wayL threeP [3]).getLast? = some 2 from rfl]
  rfl
theorem three_W3 : wayL threeP [3] = [0, 2] := rfl
theorem three_lo : (lenL threeP).foldl min 4611686018427387904 = 1073741824 := rfl
theorem three_hi : (lenL threeP).foldl max 0 = 2147483648 := rfl
theorem three_wt : sumI (wtL threeP) = 5368709120 := rfl
theorem two_E : sumE [threeP, threeP] [3] = 0 := by
  unfold sumE
  rw [if_neg (by decide), if_neg (by decide)]
  have h : allT [threeP, threeP] = true := by
    unfold allT okT
    simp only [List.all_cons, List.all_nil, three_B]
    rfl
  rw [h]
  rfl
theorem two_V : sumV [threeP, threeP] [3] = 2147483648 := by
  unfold sumV
  simp only [List.map_cons, List.map_nil, three_V3]
  rfl
theorem no_E : sumE [] [] = 100 := rfl
end Go.Proofs.Yticpmcghdoiceaa
