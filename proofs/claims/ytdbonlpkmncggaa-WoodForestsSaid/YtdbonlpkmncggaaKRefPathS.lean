/-
  RefPathS: Walks of copseref12.All, Sum, Much.
-/
import Derived.Test.YtdbonlpkmncggaaKPathE
import Derived.Test.YtdbonlpkmncggaaJ0b
import Derived.Test.YtdbonlpkmncggaaJ1a
namespace Go.Proofs.Ytdbonlpkmncggaa
open Go.RowKit

set_option maxRecDepth 100000 in
set_option maxHeartbeats 4000000 in
theorem rall_any (v : Value) (l : List TreeP) (w : World) (h : TreesR w v l) :
    Calls Try.prog 51 #[v] w fun e w' => e = .returned (.bool (decide (0 < l.length) && allT l)) ∧ Below w.heap.size w w' := by
  obtain ⟨ad, cc, rfl, _, _, q3, hcell⟩ := h
  obtain ⟨n, hn⟩ : ∃ n, l.length = n := ⟨_, rfl⟩
  have HL := Lib.hid hn
  rw [hn] at q3 ⊢
  clear hn
  rcases Nat.eq_zero_or_pos n with h0 | h0
  · subst h0
    clear hcell
    go_enter Try.func51, Try.ntmps51
    go_wp2_with fail
    go_loopw [3] (fun i wr => i = .int .i64 0 ∧ wr = w) (fun i _ => 0)
    case atStart => exact ⟨rfl, rfl⟩
    case round =>
      obtain ⟨rfl, rfl⟩ := hrel
      go_wp2_with fail
      go_ret
      exact ⟨rfl, by (repeat (first | with_reducible exact Below.refl _ _ | with_reducible refine Bs ?_ | with_reducible refine Ba ?_ | with_reducible refine Bd ?_ | with_reducible refine Bn ?_))⟩
  · have hdec : decide (0 < n) = true := by simp [h0]
    rw [hdec, Bool.true_and]
    obtain ⟨t0, ht0⟩ := getElem?_ex (l := l) (k := 0) (by rw [HL.out]; omega)
    obtain ⟨b, o, _, rfl, hb, cd0, _, _⟩ := hcell 0 t0 ht0
    have hd0 : dim0 l = t0.dim := by unfold dim0; rw [ht0]; rfl
    rw [Nat.zero_mul, Nat.add_zero, ← hd0] at cd0
    have HC := Lib.hid (show ∀ i t, l[i]? = some t → ∃ nv, w.cell? ⟨b, o + i * 2, none⟩ = some (.int .i64 t.dim) ∧ w.cell? ⟨b, o + i * 2 + 1, none⟩ = some nv ∧ NodesR w nv t.nodes from fun i t hi => by
      obtain ⟨b', o', nv, e, _, c0, c1, hn⟩ := hcell i t hi
      injection e with e
      injection e with e1 e2 e3
      subst e1 e2
      exact ⟨nv, c0, c1, hn⟩)
    have hn0 : (0 : Int) < n := by omega
    clear hcell ht0 hd0 hdec
    obtain ⟨D, hD⟩ : ∃ D, dim0 l = D := ⟨_, rfl⟩
    rw [hD] at cd0
    have HD := Lib.hid hD
    obtain ⟨E, hE⟩ : ∃ E, allT l = E := ⟨_, rfl⟩
    rw [hE]
    have HE := Lib.hid hE
    clear hE hD
    go_enter Try.func51, Try.ntmps51
    go_wp2_with fail
    go_loopw [3] (fun idx wr => ∃ k : Nat, idx = .int .i64 k ∧ k ≤ n ∧ (∀ i t, i < k → l[i]? = some t → okT l t = true) ∧ Below w.heap.size w wr) (fun idx _ => n - (intOf idx).toNat)
    case atStart => exact ⟨0, rfl, by omega, fun i t h => by omega, Below.refl _ _⟩
    case round =>
      obtain ⟨k, rfl, hk, hall, hbr⟩ := hrel
      have HA := Lib.hid hall
      have HBR := Lib.hid hbr
      have hsz := hbr.size
      by_cases hlt : k < n
      · obtain ⟨t, ht⟩ := getElem?_ex (l := l) (k := k) (by rw [HL.out]; exact hlt)
        obtain ⟨nv, c0, c1, hnv⟩ := HC.out k t ht
        have e0 := (hbr.cell (p := ⟨b, o + k * 2, none⟩) hb).trans c0
        have e1 := (hbr.cell (p := ⟨b, o + k * 2 + 1, none⟩) hb).trans c1
        have ed := (hbr.cell (p := ⟨b, o, none⟩) hb).trans cd0
        have HT := Lib.hid (show TreeR w (.agg #[.int .i64 t.dim, nv]) t from ⟨nv, rfl, hnv⟩)
        obtain ⟨na, nc, rfl, _⟩ := hnv
        have HK := Lib.hid ht
        have i1 : (0 : Int) ≤ (k : Int) := by omega
        have i2 : (k : Int) < (n : Int) := by omega
        have hbz : b < wr.heap.size := by omega
        have HOK := Lib.hid (show okT l t = (treeB t && decide (t.dim = D)) by unfold okT; rw [HD.out])
        clear ht hall hbr
        obtain ⟨TB, hTB⟩ : ∃ TB, treeB t = TB := ⟨_, rfl⟩
        have HTI := Lib.hid (fun W (hW : TreeR W (.agg #[.int .i64 t.dim, .slice na t.nodes.length nc]) t) => hTB ▸ ristree_any _ t W hW)
        rw [hTB] at HOK
        clear hTB
        generalize t.nodes.length = tn at *
        obtain ⟨d, hd⟩ : ∃ d, t.dim = d := ⟨_, rfl⟩
        rw [hd] at e0 c0 HT HOK HTI
        clear hd
        cases TB with
        | false =>
          have G := Lib.hid (show E = false by rw [← HE.out]; exact allT_not HK.out (by rw [HOK.out]; rfl))
          go_wp2_with fail
          refine wp_region_free_head_quiet (.slice (some ⟨b, o, none⟩) n cc) (.int .i64 k) (.pointer (some ⟨b, o + k * 2, none⟩)) 4 (by kernel_rfl) (by kernel_rfl) (by kernel_rfl) (by kernel_rfl) (by kernel_rfl) (by decide) (by kernel_rfl) (fun _ _ _ h => h) (fun _ _ _ h => h) (fun _ _ _ h => h) (Or.inl ⟨rfl, fun w => by go_simp⟩) (Or.inl ⟨rfl, fun w => by go_simp⟩) (Or.inl ⟨rfl, fun w => by go_simp⟩) ?_
          simp only [List.take_succ_cons, List.take_zero, List.drop_succ_cons, List.drop_zero, Act.put, List.setIfInBounds_toArray, List.set_cons_zero, List.set_cons_succ]
          go_wp2_with (go_at_call 35; go_must (with_reducible refine (HTI.out _ ((HT.out.below HBR.out).below (by (repeat (first | with_reducible exact Below.refl _ _ | with_reducible refine Bs ?_ | with_reducible refine Ba ?_ | with_reducible refine Bd ?_ | with_reducible refine Bn ?_))))).mono ?_))
          rintro e w4 ⟨rfl, b4⟩
          have B4 := Lib.hid (show Below wr.heap.size wr w4 from below_tr (by (repeat (first | with_reducible exact Below.refl _ _ | with_reducible refine Bs ?_ | with_reducible refine Ba ?_ | with_reducible refine Bd ?_ | with_reducible refine Bn ?_))) (b4.mono (by first | omega | (simp; done) | (simp; omega))))
          have z0 : w4.cell? ⟨b, o + k * 2, none⟩ = some (.int .i64 d) := (b4.cell (by first | omega | (simp; done) | (simp; omega))).trans (by go_simp)
          have z2 : w4.cell? ⟨b, o, none⟩ = some (.int .i64 D) := (b4.cell (by first | omega | (simp; done) | (simp; omega))).trans (by go_simp)
          clear b4
          go_wp2_with fail
          refine CalmNext.normal ?_; (repeat (go_big_quiet_step (fail))); refine wpQuiet_nil ?_; intro _ hw1; obtain ⟨nq, hw2⟩ := hw1; subst hw2
          go_wp2_with fail
          go_ret
          exact ⟨by rw [G.out]; rfl, by (repeat (first | with_reducible exact Below.refl _ _ | with_reducible refine Bs ?_ | with_reducible refine Ba ?_ | with_reducible refine Bd ?_ | with_reducible refine Bn ?_ | with_reducible refine Bt B4.out ?_ | with_reducible refine Bt HBR.out ?_))⟩
        | true =>
          by_cases a1 : d = D
          · subst a1
            have j1 : (d != d) = false := by simp
            have HOT := Lib.hid (show okT l t = true by rw [HOK.out]; simp)
            go_wp2_with fail
            refine wp_region_free_head_quiet (.slice (some ⟨b, o, none⟩) n cc) (.int .i64 k) (.pointer (some ⟨b, o + k * 2, none⟩)) 4 (by kernel_rfl) (by kernel_rfl) (by kernel_rfl) (by kernel_rfl) (by kernel_rfl) (by decide) (by kernel_rfl) (fun _ _ _ h => h) (fun _ _ _ h => h) (fun _ _ _ h => h) (Or.inl ⟨rfl, fun w => by go_simp⟩) (Or.inl ⟨rfl, fun w => by go_simp⟩) (Or.inl ⟨rfl, fun w => by go_simp⟩) ?_
            simp only [List.take_succ_cons, List.take_zero, List.drop_succ_cons, List.drop_zero, Act.put, List.setIfInBounds_toArray, List.set_cons_zero, List.set_cons_succ]
            go_wp2_with (go_at_call 35; go_must (with_reducible refine (HTI.out _ ((HT.out.below HBR.out).below (by (repeat (first | with_reducible exact Below.refl _ _ | with_reducible refine Bs ?_ | with_reducible refine Ba ?_ | with_reducible refine Bd ?_ | with_reducible refine Bn ?_))))).mono ?_))
            rintro e w4 ⟨rfl, b4⟩
            have B4 := Lib.hid (show Below wr.heap.size wr w4 from below_tr (by (repeat (first | with_reducible exact Below.refl _ _ | with_reducible refine Bs ?_ | with_reducible refine Ba ?_ | with_reducible refine Bd ?_ | with_reducible refine Bn ?_))) (b4.mono (by first | omega | (simp; done) | (simp; omega))))
            have z0 : w4.cell? ⟨b, o + k * 2, none⟩ = some (.int .i64 d) := (b4.cell (by first | omega | (simp; done) | (simp; omega))).trans (by go_simp)
            have z2 : w4.cell? ⟨b, o, none⟩ = some (.int .i64 d) := (b4.cell (by first | omega | (simp; done) | (simp; omega))).trans (by go_simp)
            clear b4
            go_wp2_with fail
            refine CalmNext.normal ?_; (repeat (go_big_quiet_step (fail))); refine wpQuiet_nil ?_; intro _ hw1; obtain ⟨nq, hw2⟩ := hw1; subst hw2
            go_wp2_with fail
            go_roundw
            case rel =>
              refine ⟨k + 1, by go_num, by omega, fun i t' hi ht' => ?_, by (repeat (first | with_reducible exact Below.refl _ _ | with_reducible refine Bs ?_ | with_reducible refine Ba ?_ | with_reducible refine Bd ?_ | with_reducible refine Bn ?_ | with_reducible refine Bt B4.out ?_ | with_reducible refine Bt HBR.out ?_))⟩
              rcases Nat.lt_or_ge i k with h | h
              · exact HA.out i t' h ht'
              · obtain rfl : i = k := by omega
                rw [HK.out] at ht'
                injection ht' with ht'
                subst ht'
                exact HOT.out
            case measure => simp [intOf] <;> omega
          · have G := Lib.hid (show E = false by rw [← HE.out]; exact allT_not HK.out (by rw [HOK.out]; simp [a1]))
            have J1 := Lib.hid (show (d != D) = true by simp [a1])
            clear a1
            have j1 := J1.out
            go_wp2_with fail
            refine wp_region_free_head_quiet (.slice (some ⟨b, o, none⟩) n cc) (.int .i64 k) (.pointer (some ⟨b, o + k * 2, none⟩)) 4 (by kernel_rfl) (by kernel_rfl) (by kernel_rfl) (by kernel_rfl) (by kernel_rfl) (by decide) (by kernel_rfl) (fun _ _ _ h => h) (fun _ _ _ h => h) (fun _ _ _ h => h) (Or.inl ⟨rfl, fun w => by go_simp⟩) (Or.inl ⟨rfl, fun w => by go_simp⟩) (Or.inl ⟨rfl, fun w => by go_simp⟩) ?_
            simp only [List.take_succ_cons, List.take_zero, List.drop_succ_cons, List.drop_zero, Act.put, List.setIfInBounds_toArray, List.set_cons_zero, List.set_cons_succ]
            go_wp2_with (go_at_call 35; go_must (with_reducible refine (HTI.out _ ((HT.out.below HBR.out).below (by (repeat (first | with_reducible exact Below.refl _ _ | with_reducible refine Bs ?_ | with_reducible refine Ba ?_ | with_reducible refine Bd ?_ | with_reducible refine Bn ?_))))).mono ?_))
            rintro e w4 ⟨rfl, b4⟩
            have B4 := Lib.hid (show Below wr.heap.size wr w4 from below_tr (by (repeat (first | with_reducible exact Below.refl _ _ | with_reducible refine Bs ?_ | with_reducible refine Ba ?_ | with_reducible refine Bd ?_ | with_reducible refine Bn ?_))) (b4.mono (by first | omega | (simp; done) | (simp; omega))))
            have z0 : w4.cell? ⟨b, o + k * 2, none⟩ = some (.int .i64 d) := (b4.cell (by first | omega | (simp; done) | (simp; omega))).trans (by go_simp)
            have z2 : w4.cell? ⟨b, o, none⟩ = some (.int .i64 D) := (b4.cell (by first | omega | (simp; done) | (simp; omega))).trans (by go_simp)
            clear b4
            go_wp2_with fail
            refine CalmNext.normal ?_; (repeat (go_big_quiet_step (fail))); refine wpQuiet_nil ?_; intro _ hw1; obtain ⟨nq, hw2⟩ := hw1; subst hw2
            go_wp2_with fail
            go_ret
            exact ⟨by rw [G.out]; rfl, by (repeat (first | with_reducible exact Below.refl _ _ | with_reducible refine Bs ?_ | with_reducible refine Ba ?_ | with_reducible refine Bd ?_ | with_reducible refine Bn ?_ | with_reducible refine Bt B4.out ?_ | with_reducible refine Bt HBR.out ?_))⟩
      · obtain rfl : k = n := by omega
        have HALL := Lib.hid (show E = true by
          rw [← HE.out]
          unfold allT
          rw [List.all_eq_true]
          intro t ht
          obtain ⟨i, hi⟩ := List.getElem?_of_mem ht
          exact HA.out i t (by have := (List.getElem?_eq_some_iff.1 hi).1; have := HL.out; omega) hi)
        go_wp2_with fail
        go_ret
        exact ⟨by rw [HALL.out]; rfl, HBR.out⟩

end Go.Proofs.Ytdbonlpkmncggaa
