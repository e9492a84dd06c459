/-
  Walks of copseref11.Leaves, Parents, Depths.
-/
import Derived.Test.YticpmcghdoiceaaPathC
import Derived.Test.YticpmcghdoiceaaRefTreeA
namespace Go.Proofs.Yticpmcghdoiceaa
open Go.RowKit

theorem leafAt_is {t : TreeP} (h : IsTree t) {k : Nat} {n : NodeP} (hn : t.nodes[k]? = some n) : isLeafAt t k = decide (n.left = 0) ∧ leafB n = decide (n.left = 0) := by
  obtain ⟨_, _, g, s, q, _⟩ := h
  have e := q.leafAt (Nat.zero_le k) (List.getElem?_eq_some_iff.1 hn).1 hn
  exact ⟨by unfold isLeafAt; rw [hn]; exact e, e⟩

def F64 (j : Nat) : Value := .int .i64 (j : Int)

set_option maxRecDepth 100000 in
set_option maxHeartbeats 2000000 in
theorem rleaves_any (v : Value) (t : TreeP) (w : World) (h : TreeR w v t) :
    Calls Try.prog 96 #[v] w fun e w' => ∃ vo, e = .returned vo ∧ Ints .i64 w' vo (if treeB t = true then (leavesT t t.nodes.length).map (fun (j : Nat) => (j : Int)) else []) ∧ Below w.heap.size w w' := by
  have HTR := Lib.hid h
  have HIS := Lib.hid (fun W (hW : TreeR W v t) => ristree_any v t W hW)
  obtain ⟨nv, rfl, ad, cc, rfl, _, _, q3, _⟩ := h
  obtain ⟨TB, hTB⟩ : ∃ TB, treeB t = TB := ⟨_, rfl⟩
  rw [hTB] at HIS ⊢
  cases TB with
  | false =>
    simp only [Bool.false_eq_true, if_false]
    clear hTB
    generalize t.nodes.length = n at *
    generalize t.dim = D at *
    rcases Nat.eq_zero_or_pos n with h0 | h0
    · subst h0
      go_enter Try.func96, Try.ntmps96
      go_wp2_with fail
      go_loopw [3, 4] (fun o i wr => o = .slice none 0 0 ∧ i = .int .i64 0 ∧ wr = w.alloc (.cells #[.int .i64 D, .slice ad 0 cc] 51)) (fun _ _ _ => 0)
      case atStart => exact ⟨rfl, rfl, rfl⟩
      case round =>
        obtain ⟨rfl, rfl, rfl⟩ := hrel
        go_wp2_with fail
        go_ret
        exact ⟨_, rfl, ints_nil _ _ _ _ (by omega), by (repeat (first | with_reducible exact Below.refl _ _ | ((with_reducible refine Below.setCell ?_ ?_ _); rotate_left; (focus (first | omega | (simp; done) | (simp; omega)))) | ((with_reducible refine Below.alloc ?_ ?_ _); rotate_left; (focus (first | omega | (simp; done) | (simp; omega)))) | (with_reducible refine Below.drew ?_) | (with_reducible refine below_drewN ?_ _)))⟩
    · have hn0 : (0 : Int) < n := by omega
      go_enter Try.func96, Try.ntmps96
      go_wp2_with fail
      go_loopw [3, 4] (fun o i wr => o = .slice none 0 0 ∧ i = .int .i64 0 ∧ wr = w.alloc (.cells #[.int .i64 D, .slice ad n cc] 51)) (fun _ _ _ => 0)
      case atStart => exact ⟨rfl, rfl, rfl⟩
      case round =>
        obtain ⟨rfl, rfl, rfl⟩ := hrel
        go_wp2_with fail
        (with_reducible refine (HIS.out _ (HTR.out.below (by (repeat (first | with_reducible exact Below.refl _ _ | ((with_reducible refine Below.setCell ?_ ?_ _); rotate_left; (focus (first | omega | (simp; done) | (simp; omega)))) | ((with_reducible refine Below.alloc ?_ ?_ _); rotate_left; (focus (first | omega | (simp; done) | (simp; omega)))) | (with_reducible refine Below.drew ?_) | (with_reducible refine below_drewN ?_ _)))))).mono ?_); rintro e w1 ⟨rfl, b1⟩; have s1 : w.heap.size + 1 ≤ w1.heap.size := (by have := b1.size; first | omega | (simp at this; omega)); have B1 := Lib.hid (show Below w.heap.size w w1 from below_tr (by (repeat (first | with_reducible exact Below.refl _ _ | ((with_reducible refine Below.setCell ?_ ?_ _); rotate_left; (focus (first | omega | (simp; done) | (simp; omega)))) | ((with_reducible refine Below.alloc ?_ ?_ _); rotate_left; (focus (first | omega | (simp; done) | (simp; omega)))) | (with_reducible refine Below.drew ?_) | (with_reducible refine below_drewN ?_ _)))) (b1.mono (by first | omega | (simp; done) | (simp; omega)))); have c1_0 : w1.cell? ⟨w.heap.size, 0, none⟩ = some (.int .i64 D) := (b1.cell (by first | omega | (simp; done) | (simp; omega))).trans (by go_simp); have l1_0 : w.heap.size < w1.heap.size := (by omega); have n1_0 : w.heap.size ≠ w1.heap.size := (by omega); have m1_0 : w1.heap.size ≠ w.heap.size := (by omega); clear b1
        go_wp2_with fail
        go_ret
        exact ⟨_, rfl, ints_nil _ _ _ _ (by omega), by (repeat (first | with_reducible exact Below.refl _ _ | ((with_reducible refine Below.setCell ?_ ?_ _); rotate_left; (focus (first | omega | (simp; done) | (simp; omega)))) | ((with_reducible refine Below.alloc ?_ ?_ _); rotate_left; (focus (first | omega | (simp; done) | (simp; omega)))) | (with_reducible refine Below.drew ?_) | (with_reducible refine below_drewN ?_ _) | ((with_reducible refine Below.trans ?_ (Below.mono B1.out ?_)); rotate_left; (focus (first | omega | (simp; done) | (simp; omega))))))⟩
  | true =>
    simp only [if_true]
    have ht := treeB_true.1 hTB
    have HIT := Lib.hid ht
    have hlen := ht.len
    obtain ⟨b, o, rfl⟩ := HTR.out.addr (i := 0) (by omega)
    clear hTB ht
    obtain ⟨n, hn⟩ : ∃ n, t.nodes.length = n := ⟨_, rfl⟩
    rw [hn] at HTR HIS hlen q3 ⊢
    have HL := Lib.hid hn
    obtain ⟨D, hD⟩ : ∃ D, t.dim = D := ⟨_, rfl⟩
    rw [hD] at HTR HIS ⊢
    clear hn hD
    have hnI : (n : Int) ≤ 127 := by omega
    go_enter Try.func96, Try.ntmps96
    go_wp2_with fail
    go_loopw [3, 4] (fun out i wr => ∃ k : Nat, i = .int .i64 k ∧ k ≤ n ∧ wr.ownsRow (w.heap.size + 1) 3 1 out (leavesT t k).length ((leavesT t k).map F64) ∧ Below w.heap.size w wr ∧ w.heap.size < wr.heap.size ∧ wr.cell? ⟨w.heap.size, 0, none⟩ = some (.int .i64 D) ∧ wr.cell? ⟨w.heap.size, 1, none⟩ = some (.slice (some ⟨b, o, none⟩) n cc)) (fun _ i _ => n - (intOf i).toNat)
    case atStart => exact ⟨0, rfl, by omega, World.ownsRow_nil _ _ _ _, by (repeat (first | with_reducible exact Below.refl _ _ | ((with_reducible refine Below.setCell ?_ ?_ _); rotate_left; (focus (first | omega | (simp; done) | (simp; omega)))) | ((with_reducible refine Below.alloc ?_ ?_ _); rotate_left; (focus (first | omega | (simp; done) | (simp; omega)))) | (with_reducible refine Below.drew ?_) | (with_reducible refine below_drewN ?_ _))), by simp, by go_simp, by go_simp⟩
    case round =>
      obtain ⟨k, rfl, hk, hown, hbr, hsz, y0, y1⟩ := hrel
      have HOWN := Lib.hid hown
      have HBR := Lib.hid hbr
      by_cases hlt : k < n
      · obtain ⟨nd, hnd⟩ := getElem?_ex (l := t.nodes) (k := k) (by rw [HL.out]; exact hlt)
        obtain ⟨hbw, hat⟩ := (HTR.out.below hbr).node hnd
        obtain ⟨_, _, _, _, _, e2, _, _⟩ := hat.val
        obtain ⟨g1, g2⟩ := leafAt_is HIT.out hnd
        have hc : (leavesT t k).length ≤ k := by unfold leavesT; have := List.length_filter_le (isLeafAt t) (List.range k); simpa using this
        have i1 : (0 : Int) ≤ (k : Int) := by omega
        have i2 : (k : Int) < (n : Int) := by omega
        have HG := Lib.hid (leavesT_succ t k)
        rw [g1] at HG
        clear hown hbr hat hnd g1 g2
        by_cases h0 : nd.left = 0
        · rw [h0] at e2
          have HLS := Lib.hid (show leavesT t (k + 1) = leavesT t k ++ [k] by rw [HG.out]; simp [h0])
          clear h0
          go_wp2_with fail
          (with_reducible refine (HIS.out _ (HTR.out.below HBR.out)).mono ?_)
          rintro e w4 ⟨rfl, b4⟩
          have B4 := Lib.hid b4
          have own4 := own_keep HOWN.out fun g _ hg => b4.block g hg
          have OWN4 := Lib.hid own4
          have t0 := (b4.cell (p := ⟨w.heap.size, 0, none⟩) hsz).trans y0
          have t1 := (b4.cell (p := ⟨w.heap.size, 1, none⟩) hsz).trans y1
          have t2 := (b4.cell (p := ⟨b, o + k * 5 + 2, none⟩) hbw).trans e2
          have s4 := b4.size
          clear own4 b4
          go_wp2_with (at_builtin; go_must (refine app1 rfl _ _ 29 rfl Try.underlying29 eiInt (w.heap.size + 1) (by rfl) OWN4.out (by rfl) rfl (by simp [Value.oneCell']) (by omega) (by omega) ?_))
          intro v5 w5 hown5 hb5 _
          have u0 := (hb5.cell (p := ⟨w.heap.size, 0, none⟩) (by simp)).trans t0
          have u1 := (hb5.cell (p := ⟨w.heap.size, 1, none⟩) (by simp)).trans t1
          have s5 := hb5.size
          have OWN5 := Lib.hid hown5
          have B5 := Lib.hid (show Below w.heap.size w w5 from below_tr (below_tr HBR.out (B4.out.mono (by omega))) (hb5.mono (by omega)))
          clear hown5 hb5 t0 t1
          go_wp2_with fail
          go_roundw
          case rel =>
            refine ⟨k + 1, by go_num, by omega, ?_, B5.out, by omega, u0, u1⟩
            rw [HLS.out, List.length_append, List.length_singleton, List.map_append]
            exact OWN5.out
          case measure => simp [intOf] <;> omega
        · have HLS := Lib.hid (show leavesT t (k + 1) = leavesT t k by rw [HG.out]; simp [h0])
          have J := Lib.hid (show (nd.left == 0) = false by simp [h0])
          clear h0
          generalize nd.left = xl at *
          go_wp2_with fail
          (with_reducible refine (HIS.out _ (HTR.out.below HBR.out)).mono ?_)
          rintro e w4 ⟨rfl, b4⟩
          have B4 := Lib.hid b4
          have own4 := own_keep HOWN.out fun g _ hg => b4.block g hg
          have OWN4 := Lib.hid own4
          have t0 := (b4.cell (p := ⟨w.heap.size, 0, none⟩) hsz).trans y0
          have t1 := (b4.cell (p := ⟨w.heap.size, 1, none⟩) hsz).trans y1
          have t2 := (b4.cell (p := ⟨b, o + k * 5 + 2, none⟩) hbw).trans e2
          have s4 := b4.size
          have j := J.out
          clear own4 b4
          go_wp2_with fail
          go_roundw
          case rel => exact ⟨k + 1, by go_num, by omega, by rw [HLS.out]; exact OWN4.out, below_tr HBR.out (B4.out.mono (by omega)), by omega, t0, t1⟩
          case measure => simp [intOf] <;> omega
      · obtain rfl : k = n := by omega
        have i5 := Ints.own (l := (leavesT t k).map (fun (j : Nat) => (j : Int))) (by rw [List.map_map]; exact hown) (by
          have hc : (leavesT t k).length ≤ k := by unfold leavesT; have := List.length_filter_le (isLeafAt t) (List.range k); simpa using this
          simp; omega)
        have I5 := Lib.hid i5.2
        clear hown hbr i5
        go_wp2_with fail
        go_ret
        exact ⟨_, rfl, I5.out, HBR.out⟩
end Go.Proofs.Yticpmcghdoiceaa
