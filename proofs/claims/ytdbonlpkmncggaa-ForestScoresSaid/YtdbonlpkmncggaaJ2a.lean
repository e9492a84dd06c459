/-
  RefPathS: Walks of copseref12.All, Sum, Much.
  ForS: Walk of tree.Same.
  PathLaw: Plain laws of paths: each vector's path is between the shortest and the longest one; so is the weight.
-/
import Derived.Test.YtdbonlpkmncggaaKPathE
import Derived.Test.YtdbonlpkmncggaaJ0a
import Derived.Test.YtdbonlpkmncggaaJ1a
import Derived.Test.YtdbonlpkmncggaaKSameU
import Derived.Test.YtdbonlpkmncggaaKRefPathH
namespace Go.Proofs.Ytdbonlpkmncggaa
open Go.RowKit

set_option maxRecDepth 100000 in
set_option maxHeartbeats 4000000 in
theorem rall_any (v : Value) (l : List TreeP) (w : World) (h : TreesR w v l) :
    Calls Try.prog 51 #[v] w fun e w' => e = .returned (.bool (decide (0 < l.length) && allT l)) ∧ Below w.heap.size w w' := by
  obtain ⟨ad, cc, rfl, _, _, q3, hcell⟩ := h
  obtain ⟨n, hn⟩ : ∃ n, l.length = n := ⟨_, rfl⟩
  have HL := Lib.hid hn
  rw [hn] at q3 ⊢
  clear hn
  rcases Nat.eq_zero_or_pos n with h0 | h0
  · subst h0
    clear hcell
    go_enter Try.func51, Try.ntmps51
    go_wp2_with fail
    go_loopw [3] (fun i wr => i = .int .i64 0 ∧ wr = w) (fun i _ => 0)
    case atStart => exact ⟨rfl, rfl⟩
    case round =>
      obtain ⟨rfl, rfl⟩ := hrel
      go_wp2_with fail
      go_ret
      exact ⟨rfl, by (repeat (first | with_reducible exact Below.refl _ _ | with_reducible refine Bs ?_ | with_reducible refine Ba ?_ | with_reducible refine Bd ?_ | with_reducible refine Bn ?_))⟩
  · have hdec : decide (0 < n) = true := by simp [h0]
    rw [hdec, Bool.true_and]
    obtain ⟨t0, ht0⟩ := getElem?_ex (l := l) (k := 0) (by rw [HL.out]; omega)
    obtain ⟨b, o, _, rfl, hb, cd0, _, _⟩ := hcell 0 t0 ht0
    have hd0 : dim0 l = t0.dim := by unfold dim0; rw [ht0]; rfl
    rw [Nat.zero_mul, Nat.add_zero, ← hd0] at cd0
    have HC := Lib.hid (show ∀ i t, l[i]? = some t → ∃ nv, w.cell? ⟨b, o + i * 2, none⟩ = some (.int .i64 t.dim) ∧ w.cell? ⟨b, o + i * 2 + 1, none⟩ = some nv ∧ NodesR w nv t.nodes from fun i t hi => by
      obtain ⟨b', o', nv, e, _, c0, c1, hn⟩ := hcell i t hi
      injection e with e
      injection e with e1 e2 e3
      subst e1 e2
      exact ⟨nv, c0, c1, hn⟩)
    have hn0 : (0 : Int) < n := by omega
    clear hcell ht0 hd0 hdec
    obtain ⟨D, hD⟩ : ∃ D, dim0 l = D := ⟨_, rfl⟩
    rw [hD] at cd0
    have HD := Lib.hid hD
    obtain ⟨E, hE⟩ : ∃ E, allT l = E := ⟨_, rfl⟩
    rw [hE]
    have HE := Lib.hid hE
    clear hE hD
    go_enter Try.func51, Try.ntmps51
    go_wp2_with fail
    go_loopw [3] (fun idx wr => ∃ k : Nat, idx = .int .i64 k ∧ k ≤ n ∧ (∀ i t, i < k → l[i]? = some t → okT l t = true) ∧ Below w.heap.size w wr) (fun idx _ => n - (intOf idx).toNat)
    case atStart => exact ⟨0, rfl, by omega, fun i t h => by omega, Below.refl _ _⟩
    case round =>
      obtain ⟨k, rfl, hk, hall, hbr⟩ := hrel
      have HA := Lib.hid hall
      have HBR := Lib.hid hbr
      have hsz := hbr.size
      by_cases hlt : k < n
      · obtain ⟨t, ht⟩ := getElem?_ex (l := l) (k := k) (by rw [HL.out]; exact hlt)
        obtain ⟨nv, c0, c1, hnv⟩ := HC.out k t ht
        have e0 := (hbr.cell (p := ⟨b, o + k * 2, none⟩) hb).trans c0
        have e1 := (hbr.cell (p := ⟨b, o + k * 2 + 1, none⟩) hb).trans c1
        have ed := (hbr.cell (p := ⟨b, o, none⟩) hb).trans cd0
        have HT := Lib.hid (show TreeR w (.agg #[.int .i64 t.dim, nv]) t from ⟨nv, rfl, hnv⟩)
        obtain ⟨na, nc, rfl, _⟩ := hnv
        have HK := Lib.hid ht
        have i1 : (0 : Int) ≤ (k : Int) := by omega
        have i2 : (k : Int) < (n : Int) := by omega
        have hbz : b < wr.heap.size := by omega
        have HOK := Lib.hid (show okT l t = (treeB t && decide (t.dim = D)) by unfold okT; rw [HD.out])
        clear ht hall hbr
        obtain ⟨TB, hTB⟩ : ∃ TB, treeB t = TB := ⟨_, rfl⟩
        have HTI := Lib.hid (fun W (hW : TreeR W (.agg #[.int .i64 t.dim, .slice na t.nodes.length nc]) t) => hTB ▸ ristree_any _ t W hW)
        rw [hTB] at HOK
        clear hTB
        generalize t.nodes.length = tn at *
        obtain ⟨d, hd⟩ : ∃ d, t.dim = d := ⟨_, rfl⟩
        rw [hd] at e0 c0 HT HOK HTI
        clear hd
        cases TB with
        | false =>
          have G := Lib.hid (show E = false by rw [← HE.out]; exact allT_not HK.out (by rw [HOK.out]; rfl))
          go_wp2_with fail
          refine wp_region_free_head_quiet (.slice (some ⟨b, o, none⟩) n cc) (.int .i64 k) (.pointer (some ⟨b, o + k * 2, none⟩)) 4 (by kernel_rfl) (by kernel_rfl) (by kernel_rfl) (by kernel_rfl) (by kernel_rfl) (by decide) (by kernel_rfl) (fun _ _ _ h => h) (fun _ _ _ h => h) (fun _ _ _ h => h) (Or.inl ⟨rfl, fun w => by go_simp⟩) (Or.inl ⟨rfl, fun w => by go_simp⟩) (Or.inl ⟨rfl, fun w => by go_simp⟩) ?_
          simp only [List.take_succ_cons, List.take_zero, List.drop_succ_cons, List.drop_zero, Act.put, List.setIfInBounds_toArray, List.set_cons_zero, List.set_cons_succ]
          go_wp2_with (go_at_call 35; go_must (with_reducible refine (HTI.out _ ((HT.out.below HBR.out).below (by (repeat (first | with_reducible exact Below.refl _ _ | with_reducible refine Bs ?_ | with_reducible refine Ba ?_ | with_reducible refine Bd ?_ | with_reducible refine Bn ?_))))).mono ?_))
          rintro e w4 ⟨rfl, b4⟩
          have B4 := Lib.hid (show Below wr.heap.size wr w4 from below_tr (by (repeat (first | with_reducible exact Below.refl _ _ | with_reducible refine Bs ?_ | with_reducible refine Ba ?_ | with_reducible refine Bd ?_ | with_reducible refine Bn ?_))) (b4.mono (by first | omega | (simp; done) | (simp; omega))))
          have z0 : w4.cell? ⟨b, o + k * 2, none⟩ = some (.int .i64 d) := (b4.cell (by first | omega | (simp; done) | (simp; omega))).trans (by go_simp)
          have z2 : w4.cell? ⟨b, o, none⟩ = some (.int .i64 D) := (b4.cell (by first | omega | (simp; done) | (simp; omega))).trans (by go_simp)
          clear b4
          go_wp2_with fail
          refine CalmNext.normal ?_; (repeat (go_big_quiet_step (fail))); refine wpQuiet_nil ?_; intro _ hw1; obtain ⟨nq, hw2⟩ := hw1; subst hw2
          go_wp2_with fail
          go_ret
          exact ⟨by rw [G.out]; rfl, by (repeat (first | with_reducible exact Below.refl _ _ | with_reducible refine Bs ?_ | with_reducible refine Ba ?_ | with_reducible refine Bd ?_ | with_reducible refine Bn ?_ | with_reducible refine Bt B4.out ?_ | with_reducible refine Bt HBR.out ?_))⟩
        | true =>
          by_cases a1 : d = D
          · subst a1
            have j1 : (d != d) = false := by simp
            have HOT := Lib.hid (show okT l t = true by rw [HOK.out]; simp)
            go_wp2_with fail
            refine wp_region_free_head_quiet (.slice (some ⟨b, o, none⟩) n cc) (.int .i64 k) (.pointer (some ⟨b, o + k * 2, none⟩)) 4 (by kernel_rfl) (by kernel_rfl) (by kernel_rfl) (by kernel_rfl) (by kernel_rfl) (by decide) (by kernel_rfl) (fun _ _ _ h => h) (fun _ _ _ h => h) (fun _ _ _ h => h) (Or.inl ⟨rfl, fun w => by go_simp⟩) (Or.inl ⟨rfl, fun w => by go_simp⟩) (Or.inl ⟨rfl, fun w => by go_simp⟩) ?_
            simp only [List.take_succ_cons, List.take_zero, List.drop_succ_cons, List.drop_zero, Act.put, List.setIfInBounds_toArray, List.set_cons_zero, List.set_cons_succ]
            go_wp2_with (go_at_call 35; go_must (with_reducible refine (HTI.out _ ((HT.out.below HBR.out).below (by (repeat (first | with_reducible exact Below.refl _ _ | with_reducible refine Bs ?_ | with_reducible refine Ba ?_ | with_reducible refine Bd ?_ | with_reducible refine Bn ?_))))).mono ?_))
            rintro e w4 ⟨rfl, b4⟩
            have B4 := Lib.hid (show Below wr.heap.size wr w4 from below_tr (by (repeat (first | with_reducible exact Below.refl _ _ | with_reducible refine Bs ?_ | with_reducible refine Ba ?_ | with_reducible refine Bd ?_ | with_reducible refine Bn ?_))) (b4.mono (by first | omega | (simp; done) | (simp; omega))))
            have z0 : w4.cell? ⟨b, o + k * 2, none⟩ = some (.int .i64 d) := (b4.cell (by first | omega | (simp; done) | (simp; omega))).trans (by go_simp)
            have z2 : w4.cell? ⟨b, o, none⟩ = some (.int .i64 d) := (b4.cell (by first | omega | (simp; done) | (simp; omega))).trans (by go_simp)
            clear b4
            go_wp2_with fail
            refine CalmNext.normal ?_; (repeat (go_big_quiet_step (fail))); refine wpQuiet_nil ?_; intro _ hw1; obtain ⟨nq, hw2⟩ := hw1; subst hw2
            go_wp2_with fail
            go_roundw
            case rel =>
              refine ⟨k + 1, by go_num, by omega, fun i t' hi ht' => ?_, by (repeat (first | with_reducible exact Below.refl _ _ | with_reducible refine Bs ?_ | with_reducible refine Ba ?_ | with_reducible refine Bd ?_ | with_reducible refine Bn ?_ | with_reducible refine Bt B4.out ?_ | with_reducible refine Bt HBR.out ?_))⟩
              rcases Nat.lt_or_ge i k with h | h
              · exact HA.out i t' h ht'
              · obtain rfl : i = k := by omega
                rw [HK.out] at ht'
                injection ht' with ht'
                subst ht'
                exact HOT.out
            case measure => simp [intOf] <;> omega
          · have G := Lib.hid (show E = false by rw [← HE.out]; exact allT_not HK.out (by rw [HOK.out]; simp [a1]))
            have J1 := Lib.hid (show (d != D) = true by simp [a1])
            clear a1
            have j1 := J1.out
            go_wp2_with fail
            refine wp_region_free_head_quiet (.slice (some ⟨b, o, none⟩) n cc) (.int .i64 k) (.pointer (some ⟨b, o + k * 2, none⟩)) 4 (by kernel_rfl) (by kernel_rfl) (by kernel_rfl) (by kernel_rfl) (by kernel_rfl) (by decide) (by kernel_rfl) (fun _ _ _ h => h) (fun _ _ _ h => h) (fun _ _ _ h => h) (Or.inl ⟨rfl, fun w => by go_simp⟩) (Or.inl ⟨rfl, fun w => by go_simp⟩) (Or.inl ⟨rfl, fun w => by go_simp⟩) ?_
            simp only [List.take_succ_cons, List.take_zero, List.drop_succ_cons, List.drop_zero, Act.put, List.setIfInBounds_toArray, List.set_cons_zero, List.set_cons_succ]
            go_wp2_with (go_at_call 35; go_must (with_reducible refine (HTI.out _ ((HT.out.below HBR.out).below (by (repeat (first | with_reducible exact Below.refl _ _ | with_reducible refine Bs ?_ | with_reducible refine Ba ?_ | with_reducible refine Bd ?_ | with_reducible refine Bn ?_))))).mono ?_))
            rintro e w4 ⟨rfl, b4⟩
            have B4 := Lib.hid (show Below wr.heap.size wr w4 from below_tr (by (repeat (first | with_reducible exact Below.refl _ _ | with_reducible refine Bs ?_ | with_reducible refine Ba ?_ | with_reducible refine Bd ?_ | with_reducible refine Bn ?_))) (b4.mono (by first | omega | (simp; done) | (simp; omega))))
            have z0 : w4.cell? ⟨b, o + k * 2, none⟩ = some (.int .i64 d) := (b4.cell (by first | omega | (simp; done) | (simp; omega))).trans (by go_simp)
            have z2 : w4.cell? ⟨b, o, none⟩ = some (.int .i64 D) := (b4.cell (by first | omega | (simp; done) | (simp; omega))).trans (by go_simp)
            clear b4
            go_wp2_with fail
            refine CalmNext.normal ?_; (repeat (go_big_quiet_step (fail))); refine wpQuiet_nil ?_; intro _ hw1; obtain ⟨nq, hw2⟩ := hw1; subst hw2
            go_wp2_with fail
            go_ret
            exact ⟨by rw [G.out]; rfl, by (repeat (first | with_reducible exact Below.refl _ _ | with_reducible refine Bs ?_ | with_reducible refine Ba ?_ | with_reducible refine Bd ?_ | with_reducible refine Bn ?_ | with_reducible refine Bt B4.out ?_ | with_reducible refine Bt HBR.out ?_))⟩
      · obtain rfl : k = n := by omega
        have HALL := Lib.hid (show E = true by
          rw [← HE.out]
          unfold allT
          rw [List.all_eq_true]
          intro t ht
          obtain ⟨i, hi⟩ := List.getElem?_of_mem ht
          exact HA.out i t (by have := (List.getElem?_eq_some_iff.1 hi).1; have := HL.out; omega) hi)
        go_wp2_with fail
        go_ret
        exact ⟨by rw [HALL.out]; rfl, HBR.out⟩

set_option maxRecDepth 100000 in
set_option maxHeartbeats 4000000 in
theorem rsum12_any (v vx : Value) (l : List TreeP) (x : List Int) (w : World) (h : TreesR w v l) (hx : Ints .i64 w vx x) :
    Calls Try.prog 59 #[v, vx] w fun e w' => e = .returned (.tuple #[.int .i64 (if sumE l x = 0 then sumV l x else 0), .int .i64 (sumE l x)]) ∧ Below w.heap.size w w' := by
  have HTR := Lib.hid h
  have HX := Lib.hid hx
  have HALLC := Lib.hid (fun W (hW : TreesR W v l) => rall_any v l W hW)
  obtain ⟨ad, cc, rfl, _, _, q3, hcell⟩ := h
  unfold sumE
  obtain ⟨n, hn⟩ : ∃ n, l.length = n := ⟨_, rfl⟩
  have HL := Lib.hid hn
  rw [hn] at q3 HTR HALLC ⊢
  clear hn hx
  by_cases h16 : 16 < n
  · rw [if_pos h16]
    have h1 : (16 : Int) < n := by omega
    clear hcell HALLC
    go_enter Try.func59, Try.ntmps59
    go_wp2_with fail
    exact bodyPost_ret (v := .tuple #[.int .i64 0, .int .i64 3]) (by simp [results, Try.results59, go_sem]) rfl ⟨rfl, by (repeat (first | with_reducible exact Below.refl _ _ | with_reducible refine Bs ?_ | with_reducible refine Ba ?_ | with_reducible refine Bd ?_ | with_reducible refine Bn ?_))⟩
  · rw [if_neg h16]
    have hn16 : (n : Int) ≤ 16 := by omega
    by_cases h0 : n = 0
    · rw [if_pos h0]
      subst h0
      rw [show (decide (0 < 0) && allT l) = false from rfl] at HALLC
      clear hcell
      go_enter Try.func59, Try.ntmps59
      go_wp2_with fail
      (with_reducible refine (HALLC.out _ (HTR.out.below (by (repeat (first | with_reducible exact Below.refl _ _ | with_reducible refine Bs ?_ | with_reducible refine Ba ?_ | with_reducible refine Bd ?_ | with_reducible refine Bn ?_))))).mono ?_); rintro e w1 ⟨rfl, b1⟩; have s1 : w.heap.size ≤ w1.heap.size := sz b1; have B1 := Lib.hid (Bc (B := w.heap.size) (a := w) (by (repeat (first | with_reducible exact Below.refl _ _ | with_reducible refine Bs ?_ | with_reducible refine Ba ?_ | with_reducible refine Bd ?_ | with_reducible refine Bn ?_))) b1); clear b1
      go_wp2_with fail
      exact bodyPost_ret (v := .tuple #[.int .i64 0, .int .i64 100]) (by simp [results, Try.results59, go_sem]) rfl ⟨rfl, by (repeat (first | with_reducible exact Below.refl _ _ | with_reducible refine Bs ?_ | with_reducible refine Ba ?_ | with_reducible refine Bd ?_ | with_reducible refine Bn ?_ | with_reducible refine Bt B1.out ?_))⟩
    · rw [if_neg h0]
      rw [show (decide (0 < n) && allT l) = allT l by simp [show 0 < n by omega]] at HALLC
      obtain ⟨t0, ht0⟩ := getElem?_ex (l := l) (k := 0) (by rw [HL.out]; omega)
      obtain ⟨b, o, _, rfl, hb, cd0, _, _⟩ := hcell 0 t0 ht0
      have hd0 : dim0 l = t0.dim := by unfold dim0; rw [ht0]; rfl
      rw [Nat.zero_mul, Nat.add_zero, ← hd0] at cd0
      have HC := Lib.hid (show ∀ i t, l[i]? = some t → ∃ nv, w.cell? ⟨b, o + i * 2, none⟩ = some (.int .i64 t.dim) ∧ w.cell? ⟨b, o + i * 2 + 1, none⟩ = some nv ∧ NodesR w nv t.nodes from fun i t hi => by
        obtain ⟨b', o', nv, e, _, c0, c1, hn⟩ := hcell i t hi
        injection e with e
        injection e with e1 e2 e3
        subst e1 e2
        exact ⟨nv, c0, c1, hn⟩)
      have hn0 : (0 : Int) < n := by omega
      clear hcell ht0 hd0
      cases hA : allT l with
      | false =>
        rw [hA] at HALLC
        rw [if_pos rfl]
        clear hA
        go_enter Try.func59, Try.ntmps59
        go_wp2_with fail
        (with_reducible refine (HALLC.out _ (HTR.out.below (by (repeat (first | with_reducible exact Below.refl _ _ | with_reducible refine Bs ?_ | with_reducible refine Ba ?_ | with_reducible refine Bd ?_ | with_reducible refine Bn ?_))))).mono ?_); rintro e w1 ⟨rfl, b1⟩; have s1 : w.heap.size ≤ w1.heap.size := sz b1; have B1 := Lib.hid (Bc (B := w.heap.size) (a := w) (by (repeat (first | with_reducible exact Below.refl _ _ | with_reducible refine Bs ?_ | with_reducible refine Ba ?_ | with_reducible refine Bd ?_ | with_reducible refine Bn ?_))) b1); clear b1
        go_wp2_with fail
        exact bodyPost_ret (v := .tuple #[.int .i64 0, .int .i64 100]) (by simp [results, Try.results59, go_sem]) rfl ⟨rfl, by (repeat (first | with_reducible exact Below.refl _ _ | with_reducible refine Bs ?_ | with_reducible refine Ba ?_ | with_reducible refine Bd ?_ | with_reducible refine Bn ?_ | with_reducible refine Bt B1.out ?_))⟩
      | true =>
        rw [hA] at HALLC
        have HALL := Lib.hid hA
        clear hA
        have HVI := Lib.hid (fun W (hW : Ints .i64 W vx x) => risv_any vx x (dim0 l) W hW)
        cases hV : vecB x (dim0 l) with
        | false =>
          rw [hV] at HVI
          simp only [Bool.true_eq_false, if_false, if_true, show ¬ (80 : Int) = 0 by decide]
          clear hV
          generalize dim0 l = D at *
          go_enter Try.func59, Try.ntmps59
          go_wp2_with fail
          (with_reducible refine (HALLC.out _ (HTR.out.below (by (repeat (first | with_reducible exact Below.refl _ _ | with_reducible refine Bs ?_ | with_reducible refine Ba ?_ | with_reducible refine Bd ?_ | with_reducible refine Bn ?_))))).mono ?_); rintro e w1 ⟨rfl, b1⟩; have s1 : w.heap.size ≤ w1.heap.size := sz b1; have B1 := Lib.hid (Bc (B := w.heap.size) (a := w) (by (repeat (first | with_reducible exact Below.refl _ _ | with_reducible refine Bs ?_ | with_reducible refine Ba ?_ | with_reducible refine Bd ?_ | with_reducible refine Bn ?_))) b1); clear b1
          have k0 := (B1.out.cell (p := ⟨b, o, none⟩) hb).trans cd0
          go_wp2_with fail
          refine (HVI.out _ (HX.out.below B1.out)).mono ?_
          rintro e w2 ⟨rfl, rfl⟩
          go_wp2_with fail
          exact bodyPost_ret (v := .tuple #[.int .i64 0, .int .i64 80]) (by simp [results, Try.results59, go_sem]) rfl ⟨rfl, by (repeat (first | with_reducible exact Below.refl _ _ | with_reducible refine Bs ?_ | with_reducible refine Ba ?_ | with_reducible refine Bd ?_ | with_reducible refine Bn ?_ | with_reducible refine Bt B1.out ?_))⟩
        | true =>
          rw [hV] at HVI
          simp only [Bool.true_eq_false, if_false, if_true]
          have HPE := Lib.hid (show ∀ i t, l[i]? = some t → pathE t x = 0 from fun i t hi => by
            obtain ⟨g1, g2⟩ := allT_at HALL.out hi
            unfold pathE
            rw [g1, g2, hV]
            rfl)
          clear hV
          obtain ⟨SV, hSV⟩ : ∃ SV, sumV l x = SV := ⟨_, rfl⟩
          rw [hSV]
          have HSV := Lib.hid hSV
          clear hSV
          obtain ⟨D, hD⟩ : ∃ D, dim0 l = D := ⟨_, rfl⟩
          rw [hD] at cd0 HVI
          clear hD
          go_enter Try.func59, Try.ntmps59
          go_wp2_with fail
          (with_reducible refine (HALLC.out _ (HTR.out.below (by (repeat (first | with_reducible exact Below.refl _ _ | with_reducible refine Bs ?_ | with_reducible refine Ba ?_ | with_reducible refine Bd ?_ | with_reducible refine Bn ?_))))).mono ?_); rintro e w1 ⟨rfl, b1⟩; have s1 : w.heap.size ≤ w1.heap.size := sz b1; have B1 := Lib.hid (Bc (B := w.heap.size) (a := w) (by (repeat (first | with_reducible exact Below.refl _ _ | with_reducible refine Bs ?_ | with_reducible refine Ba ?_ | with_reducible refine Bd ?_ | with_reducible refine Bn ?_))) b1); clear b1
          have k0 := (B1.out.cell (p := ⟨b, o, none⟩) hb).trans cd0
          go_wp2_with fail
          refine (HVI.out _ (HX.out.below B1.out)).mono ?_
          rintro e w2 ⟨rfl, rfl⟩
          go_wp2_with fail
          go_loopw [6, 7, 8, 9] (fun sm idx _ _ wr => ∃ j : Nat, idx = .int .i64 j ∧ j ≤ n ∧ sm = .int .i64 (sumI ((l.take j).map fun t => lenV t x)) ∧ Below w.heap.size w wr) (fun _ idx _ _ _ => n - (intOf idx).toNat)
          case atStart => exact ⟨0, rfl, by omega, rfl, by (repeat (first | with_reducible exact Below.refl _ _ | with_reducible refine Bs ?_ | with_reducible refine Ba ?_ | with_reducible refine Bd ?_ | with_reducible refine Bn ?_ | with_reducible refine Bt B1.out ?_))⟩
          case round =>
            obtain ⟨j, rfl, hj, rfl, hbr⟩ := hrel
            have HB2 := Lib.hid hbr
            have hsz2 := hbr.size
            by_cases hlt2 : j < n
            · obtain ⟨t, ht⟩ := getElem?_ex (l := l) (k := j) (by rw [HL.out]; exact hlt2)
              obtain ⟨nv, c0, c1, hnv⟩ := HC.out j t ht
              have e0 := (hbr.cell (p := ⟨b, o + j * 2, none⟩) hb).trans c0
              have e1 := (hbr.cell (p := ⟨b, o + j * 2 + 1, none⟩) hb).trans c1
              have HT := Lib.hid (show TreeR w (.agg #[.int .i64 t.dim, nv]) t from ⟨nv, rfl, hnv⟩)
              obtain ⟨na, nc, rfl, _⟩ := hnv
              have i1 : (0 : Int) ≤ (j : Int) := by omega
              have i2 : (j : Int) < (n : Int) := by omega
              have hsb := sum_take_bd (x := x) HALL.out (by rw [HL.out]; omega) j
              have hb2 := lenV_bd (x := x) (allT_at HALL.out ht).1
              have HSS := Lib.hid (show sumI ((l.take (j + 1)).map fun t => lenV t x) = sumI ((l.take j).map fun t => lenV t x) + lenV t x by rw [take_snoc' ht, List.map_append]; exact sumI_snoc _ _)
              have hll := fun W (hW : TreeR W (.agg #[.int .i64 t.dim, .slice na t.nodes.length nc]) t) (hX : Ints .i64 W vx x) => rlength_any _ vx t x W hW hX
              rw [HPE.out j t ht] at hll
              simp only [if_true] at hll
              have HLL := Lib.hid hll
              clear hll
              generalize sumI ((l.take j).map fun t => lenV t x) = S at *
              generalize lenV t x = lv at *
              clear c0 c1 ht hbr
              generalize t.nodes.length = tn at *
              generalize t.dim = d at *
              have sb1 := hsb.1
              have sb2 := hsb.2
              have lb1 := hb2.1
              have lb2 := hb2.2
              clear hsb hb2
              go_wp2_with fail
              (with_reducible refine (HLL.out _ ((HT.out.below HB2.out).below (by (repeat (first | with_reducible exact Below.refl _ _ | with_reducible refine Bs ?_ | with_reducible refine Ba ?_ | with_reducible refine Bd ?_ | with_reducible refine Bn ?_)))) ((HX.out.below HB2.out).below (by (repeat (first | with_reducible exact Below.refl _ _ | with_reducible refine Bs ?_ | with_reducible refine Ba ?_ | with_reducible refine Bd ?_ | with_reducible refine Bn ?_))))).mono ?_)
              rintro e w4 ⟨rfl, b4⟩
              have B4 := Lib.hid (show Below wr.heap.size wr w4 from below_tr (by (repeat (first | with_reducible exact Below.refl _ _ | with_reducible refine Bs ?_ | with_reducible refine Ba ?_ | with_reducible refine Bd ?_ | with_reducible refine Bn ?_))) (b4.mono (by first | omega | (simp; done) | (simp; omega))))
              clear b4
              go_wp2_with fail
              go_roundw
              case rel => exact ⟨j + 1, by go_num, by omega, by rw [HSS.out], by (repeat (first | with_reducible exact Below.refl _ _ | with_reducible refine Bs ?_ | with_reducible refine Ba ?_ | with_reducible refine Bd ?_ | with_reducible refine Bn ?_ | with_reducible refine Bt B4.out ?_ | with_reducible refine Bt HB2.out ?_))⟩
              case measure => simp [intOf] <;> omega
            · obtain rfl : j = n := by omega
              have G2 := Lib.hid (show sumI ((l.take j).map fun t => lenV t x) = SV by rw [← HSV.out]; unfold sumV; rw [List.take_of_length_le (by rw [HL.out]; omega)])
              generalize sumI ((l.take j).map fun t => lenV t x) = S at *
              go_wp2_with fail
              exact bodyPost_ret (v := .tuple #[.int .i64 S, .int .i64 0]) (by simp [results, Try.results59, go_sem]) rfl ⟨by rw [G2.out], HB2.out⟩
end Go.Proofs.Ytdbonlpkmncggaa

namespace Go.Proofs.Ytdbonlpkmncggaa
open Go.RowKit

set_option maxRecDepth 100000 in
set_option maxHeartbeats 8000000 in
theorem tSame_any (v v2 : Value) (s t : TreeP) (w : World) (h : TreeR w v s) (h2 : TreeR w v2 t) :
    Calls Try.prog 52 #[v, v2] w fun e w' => e = .returned (.bool (sameT s t)) ∧ Below w.heap.size w w' := by
  have HS := Lib.hid h
  have HT := Lib.hid h2
  obtain ⟨tv, rfl, ad, cc, rfl, _, _, q3, hcell⟩ := h
  obtain ⟨tv2, rfl, ad2, cc2, rfl, _, _, q4, hcell2⟩ := h2
  obtain ⟨SV, hSV⟩ : ∃ B, sameT s t = B := ⟨_, rfl⟩
  rw [hSV]
  have HSV := Lib.hid hSV
  obtain ⟨n, hn⟩ : ∃ n, s.nodes.length = n := ⟨_, rfl⟩
  obtain ⟨m, hm⟩ : ∃ n, t.nodes.length = n := ⟨_, rfl⟩
  obtain ⟨d, hd⟩ : ∃ n, s.dim = n := ⟨_, rfl⟩
  obtain ⟨d2, hd2⟩ : ∃ n, t.dim = n := ⟨_, rfl⟩
  rw [hn] at HS q3 ⊢
  rw [hm] at HT q4 ⊢
  rw [hd] at HS ⊢
  rw [hd2] at HT ⊢
  have HN := Lib.hid hn
  have HM := Lib.hid hm
  by_cases hdd : d = d2
  · subst hdd
    have j1 : (d != d) = false := by simp
    by_cases hnm : n = m
    · subst hnm
      have j2 : ((n : Int) != (n : Int)) = false := by simp
      have HC := Lib.hid hcell
      have HC2 := Lib.hid hcell2
      have HDD := Lib.hid (show s.dim = t.dim by rw [hd, hd2])
      clear hcell hcell2 hSV hn hm hd hd2
      go_enter Try.func52, Try.ntmps52
      go_wp2_with fail
      obtain ⟨U0, hU0⟩ : ∃ U, (w.alloc (.cells #[.int .i64 d, .slice ad n cc] 38)).alloc (.cells #[.int .i64 d, .slice ad2 n cc2] 38) = U := ⟨_, rfl⟩
      have B0 := Lib.hid (show Below w.heap.size w U0 from by rw [← hU0]; (repeat (first | with_reducible exact Below.refl _ _ | with_reducible refine Bs ?_ | with_reducible refine Ba ?_ | with_reducible refine Bd ?_ | with_reducible refine Bn ?_)))
      have hz0 : U0.heap.size = w.heap.size + 1 + 1 := by rw [← hU0]; simp
      have e1 : U0.cell? ⟨w.heap.size, 1, none⟩ = some (.slice ad n cc) := by subst hU0; go_simp
      have e2 : U0.cell? ⟨w.heap.size + 1, 1, none⟩ = some (.slice ad2 n cc2) := by subst hU0; go_simp
      rw [hU0]
      have E1 := Lib.hid e1
      have E2 := Lib.hid e2
      have HZ0 := Lib.hid hz0
      clear hU0 j1 j2 e1 e2 hz0
      go_loopw [5, 6, 7, 25] (fun _ _ _ i wr => ∃ k : Nat, i = .int .i64 k ∧ k ≤ n ∧ (∀ j x y, j < k → s.nodes[j]? = some x → t.nodes[j]? = some y → x = y) ∧ Below U0.heap.size U0 wr) (fun _ _ _ i _ => n - (intOf i).toNat)
      case atStart => exact ⟨0, rfl, by omega, fun j x y h => by omega, Below.refl _ _⟩
      case round =>
        obtain ⟨k, rfl, hk, hall, hbr⟩ := hrel
        have HA := Lib.hid hall
        have BR := Lib.hid (show Below w.heap.size w wr from B0.out.trans (hbr.mono (by rw [HZ0.out]; omega)))
        have hsz : w.heap.size + 1 + 1 ≤ wr.heap.size := by rw [← HZ0.out]; exact hbr.size
        have e1 : wr.cell? ⟨w.heap.size, 1, none⟩ = some (.slice ad n cc) := (hbr.cell (p := ⟨w.heap.size, 1, none⟩) (by rw [HZ0.out]; show w.heap.size < _; omega)).trans E1.out
        have e2 : wr.cell? ⟨w.heap.size + 1, 1, none⟩ = some (.slice ad2 n cc2) := (hbr.cell (p := ⟨w.heap.size + 1, 1, none⟩) (by rw [HZ0.out]; show w.heap.size + 1 < _; omega)).trans E2.out
        have hT1 : w.heap.size < wr.heap.size := by omega
        have hT2 : w.heap.size + 1 < wr.heap.size := by omega
        have BR2 := Lib.hid hbr
        clear hall hbr
        by_cases hlt : k < n
        · obtain ⟨x, hx⟩ := getElem?_ex (l := s.nodes) (k := k) (by rw [HN.out]; exact hlt)
          obtain ⟨y, hy⟩ := getElem?_ex (l := t.nodes) (k := k) (by rw [HM.out]; exact hlt)
          obtain ⟨b, o, rfl, hb, hnx⟩ := HC.out k x hx
          obtain ⟨b2, o2, rfl, hb2, hny⟩ := HC2.out k y hy
          have hnx := hnx.below hb (Below.mono BR.out (Nat.le_refl _))
          have hny := hny.below hb2 (Below.mono BR.out (Nat.le_refl _))
          obtain ⟨ca, cac, hci, x0, x1, x2, x3, x4⟩ := hnx.val
          obtain ⟨da, dac, hdi, y0, y1, y2, y3, y4⟩ := hny.val
          have HNE := Lib.hid (show sameN x y = false → sameT s t = false from sameT_no hx hy)
          have HEQ := Lib.hid (show sameN x y = true → ∀ j x' y', j < k + 1 → s.nodes[j]? = some x' → t.nodes[j]? = some y' → x' = y' from fun h j x' y' hj h1 h2 => by
            rcases Nat.lt_or_ge j k with h3 | h3
            · exact HA.out j x' y' h3 h1 h2
            · obtain rfl : j = k := by omega
              rw [hx] at h1
              rw [hy] at h2
              injection h1 with h1
              injection h2 with h2
              rw [← h1, ← h2]
              exact sameN_eq.1 h)
          have hbz : b < wr.heap.size := by have := BR.out.size; omega
          have hbz2 : b2 < wr.heap.size := by have := BR.out.size; omega
          have i1 : (0 : Int) ≤ (k : Int) := by omega
          have i2 : (k : Int) < (n : Int) := by omega
          clear hx hy hnx hny HA
          obtain ⟨cx, at1, lf1, rt1, sz1⟩ := x
          obtain ⟨cy, at2, lf2, rt2, sz2⟩ := y
          have HR := Lib.hid (fun W (hW : Below wr.heap.size wr W) => cSame_any _ _ cx cy at1 at2 W (hci.below hW) (hdi.below hW))
          dsimp only at x0 x1 x2 x3 x4 y0 y1 y2 y3 y4 hci hdi HR
          obtain ⟨cl, hcl⟩ : ∃ n, cx.length = n := ⟨_, rfl⟩
          obtain ⟨dl, hdl⟩ : ∃ n, cy.length = n := ⟨_, rfl⟩
          rw [hcl] at x0 HR
          rw [hdl] at y0 HR
          clear hci hdi hcl hdl
          by_cases hl : lf1 = lf2
          · subst hl
            have jl : (lf1 != lf1) = false := by simp
            by_cases hr : rt1 = rt2
            · subst hr
              have jr : (rt1 != rt1) = false := by simp
              by_cases hs : sz1 = sz2
              · subst hs
                have js : (sz1 != sz1) = false := by simp
                obtain ⟨R, hR⟩ : ∃ R, (decide (at1 = at2) && decide (cx = cy)) = R := ⟨_, rfl⟩
                have HSN := Lib.hid (show sameN ⟨cx, at1, lf1, rt1, sz1⟩ ⟨cy, at2, lf1, rt1, sz1⟩ = R by unfold sameN; rw [← hR]; simp [Bool.and_comm])
                rw [hR] at HR
                clear hR
                cases R with
                | true =>
                  have HE := Lib.hid (HEQ.out HSN.out)
                  clear HNE HEQ
                  go_wp2_with fail
                  (with_reducible refine (HR.out _ (by (repeat (first | with_reducible exact Below.refl _ _ | with_reducible refine Bs ?_ | with_reducible refine Ba ?_ | with_reducible refine Bd ?_ | with_reducible refine Bn ?_)))).mono ?_)
                  rintro e w5 ⟨rfl, b5⟩
                  have B5 := Lib.hid (show Below U0.heap.size U0 w5 from BR2.out.trans ((show Below wr.heap.size wr w5 from below_tr (by (repeat (first | with_reducible exact Below.refl _ _ | with_reducible refine Bs ?_ | with_reducible refine Ba ?_ | with_reducible refine Bd ?_ | with_reducible refine Bn ?_))) (b5.mono (by first | omega | (simp; done) | (simp; omega)))).mono (by rw [HZ0.out]; exact hsz)))
                  clear b5
                  go_wp2_with fail
                  go_roundw
                  case rel => exact ⟨k + 1, by go_num, by omega, HE.out, B5.out⟩
                  case measure => simp [intOf] <;> omega
                | false =>
                  have HF := Lib.hid (show SV = false by rw [← HSV.out]; exact HNE.out HSN.out)
                  clear HNE HEQ
                  go_wp2_with fail
                  (with_reducible refine (HR.out _ (by (repeat (first | with_reducible exact Below.refl _ _ | with_reducible refine Bs ?_ | with_reducible refine Ba ?_ | with_reducible refine Bd ?_ | with_reducible refine Bn ?_)))).mono ?_)
                  rintro e w5 ⟨rfl, b5⟩
                  have B5 := Lib.hid (show Below w.heap.size w w5 from below_tr (show Below w.heap.size w _ from by (repeat (first | with_reducible exact Below.refl _ _ | with_reducible refine Bs ?_ | with_reducible refine Ba ?_ | with_reducible refine Bd ?_ | with_reducible refine Bn ?_ | with_reducible refine Bt BR.out ?_))) (b5.mono (by first | omega | (simp; done) | (simp; omega))))
                  clear b5
                  go_wp2_with fail
                  go_ret
                  exact ⟨by rw [HF.out]; rfl, B5.out⟩
              · have js : (sz1 != sz2) = true := by simp [hs]
                have HF := Lib.hid (show SV = false by rw [← HSV.out]; exact HNE.out (by unfold sameN; simp [hs]))
                clear HNE HEQ hs
                go_wp2_with fail
                go_ret
                exact ⟨by rw [HF.out]; rfl, by (repeat (first | with_reducible exact Below.refl _ _ | with_reducible refine Bs ?_ | with_reducible refine Ba ?_ | with_reducible refine Bd ?_ | with_reducible refine Bn ?_ | with_reducible refine Bt BR.out ?_))⟩
            · have jr : (rt1 != rt2) = true := by simp [hr]
              have HF := Lib.hid (show SV = false by rw [← HSV.out]; exact HNE.out (by unfold sameN; simp [hr]))
              clear HNE HEQ hr
              go_wp2_with fail
              go_ret
              exact ⟨by rw [HF.out]; rfl, by (repeat (first | with_reducible exact Below.refl _ _ | with_reducible refine Bs ?_ | with_reducible refine Ba ?_ | with_reducible refine Bd ?_ | with_reducible refine Bn ?_ | with_reducible refine Bt BR.out ?_))⟩
          · have jl : (lf1 != lf2) = true := by simp [hl]
            have HF := Lib.hid (show SV = false by rw [← HSV.out]; exact HNE.out (by unfold sameN; simp [hl]))
            clear HNE HEQ hl
            go_wp2_with fail
            go_ret
            exact ⟨by rw [HF.out]; rfl, by (repeat (first | with_reducible exact Below.refl _ _ | with_reducible refine Bs ?_ | with_reducible refine Ba ?_ | with_reducible refine Bd ?_ | with_reducible refine Bn ?_ | with_reducible refine Bt BR.out ?_))⟩
        · have hkk : k = n := by omega
          subst hkk
          have HE := Lib.hid (show SV = true by
            rw [← HSV.out]
            unfold sameT
            have hnn : s.nodes = t.nodes := by
              apply List.ext_getElem?
              intro j
              rcases hx : s.nodes[j]? with _ | x
              · rw [eq_comm, List.getElem?_eq_none_iff, HM.out]
                rw [List.getElem?_eq_none_iff, HN.out] at hx
                exact hx
              · have hjl := (List.getElem?_eq_some_iff.1 hx).1
                obtain ⟨y, hy⟩ := getElem?_ex (l := t.nodes) (k := j) (by rw [HM.out, ← HN.out]; exact hjl)
                rw [hy, HA.out j x y (by rw [HN.out] at hjl; exact hjl) hx hy]
            simp [hnn, HDD.out])
          go_wp2_with fail
          go_ret
          exact ⟨by rw [HE.out]; rfl, by (repeat (first | with_reducible exact Below.refl _ _ | with_reducible refine Bs ?_ | with_reducible refine Ba ?_ | with_reducible refine Bd ?_ | with_reducible refine Bn ?_ | with_reducible refine Bt BR.out ?_))⟩
    · have HF := Lib.hid (show SV = false by rw [← hSV]; unfold sameT; have : ¬ s.nodes = t.nodes := (fun e => hnm (by rw [← hn, ← hm, e])); simp [this])
      have j2 : ((n : Int) != (m : Int)) = true := by simp; omega
      clear hcell hcell2 hSV hn hm hd hd2 hnm
      go_enter Try.func52, Try.ntmps52
      go_wp2_with fail
      go_ret
      exact ⟨by rw [HF.out]; rfl, by (repeat (first | with_reducible exact Below.refl _ _ | with_reducible refine Bs ?_ | with_reducible refine Ba ?_ | with_reducible refine Bd ?_ | with_reducible refine Bn ?_))⟩
  · have HF := Lib.hid (show SV = false by rw [← hSV]; unfold sameT; rw [hd, hd2]; simp [hdd])
    have j1 : (d != d2) = true := by simp [hdd]
    clear hcell hcell2 hSV hn hm hd hd2 hdd
    go_enter Try.func52, Try.ntmps52
    go_wp2_with fail
    go_ret
    exact ⟨by rw [HF.out]; rfl, by (repeat (first | with_reducible exact Below.refl _ _ | with_reducible refine Bs ?_ | with_reducible refine Ba ?_ | with_reducible refine Bd ?_ | with_reducible refine Bn ?_))⟩
end Go.Proofs.Ytdbonlpkmncggaa

namespace Go.Proofs.Ytdbonlpkmncggaa
open Go.RowKit

theorem Sub.wayDep {t : TreeP} {i e h : Nat} {s : Int} (q : Sub t i e h s) (x : List Int) : ∀ j, (wayT t x h i).getLast? = some j → depT t h i j + 1 = (wayT t x h i).length := by
  induction q with
  | @leaf i n hn hl =>
    intro j hj
    rw [wayT_leaf hn (leafB_is hl).1] at hj ⊢
    obtain rfl : i = j := by simpa using hj
    rw [depT_self]; rfl
  | @node i m e a b x' y n hn hl hc q1 hr q2 hs ih1 ih2 =>
    intro j hj
    have hl0 : ¬ n.left = 0 := by omega
    have hmt : n.right.toNat = m := by omega
    have l1 := q1.lt; have l2 := q2.lt
    rw [Nat.add_comm 1 (max a b), wayT_node hn hl0, hmt] at hj ⊢
    obtain ⟨j1, n1, g1, g2, g3, _⟩ := q1.wayLeaf x
    obtain ⟨j2, n2, k1, k2, k3, _⟩ := q2.wayLeaf x
    by_cases hb : leftB n x = true
    · rw [if_pos hb, (q1.way x (max a b) (by omega)).1] at hj ⊢
      rw [List.getLast?_cons, g1] at hj
      obtain rfl : j1 = j := by simpa using hj
      have := ih1 j1 g1
      rw [depT_left hn (by omega) (by omega), (q1.dep _ (Nat.le_max_left a b) _ (by omega) g3).1, List.length_cons, ← this]
    · rw [if_neg hb, (q2.way x (max a b) (by omega)).1] at hj ⊢
      rw [List.getLast?_cons, k1] at hj
      obtain rfl : j2 = j := by simpa using hj
      have := ih2 j2 k1
      rw [depT_right hn (by omega) (by omega), hmt, (q2.dep _ (Nat.le_max_right a b) _ (by omega) k3).1, List.length_cons, ← this]

theorem lenV_mem {t : TreeP} (x : List Int) (h : IsTree t) : lenV t x ∈ lenL t := by
  have hB := treeB_true.2 h
  obtain ⟨j, nd, g1, g2, g3, g4, g5, g6, g7⟩ := lastW_way (x := x) hB
  obtain ⟨_, _, g, s, q, h1, h2⟩ := h
  have h6 : g ≤ 6 := Nat.le_trans h2 (logI_le h1)
  have ew : wayL t x = wayT t x g 0 := (q.way x 6 h6).1
  obtain ⟨j', n', k1, _, k3, k4, k5⟩ := q.wayLeaf x
  rw [ew] at g1
  rw [k1] at g1
  obtain rfl : j' = j := by simpa using g1
  rw [g3] at k4
  injection k4 with k4
  subst k4
  have hd := q.wayDep x j' k1
  have hdf := (q.dep 6 h6 j' (by omega) k3).1
  rw [g4]
  unfold lenL
  rw [List.mem_map]
  refine ⟨j', ?_, ?_⟩
  · unfold leavesT
    rw [List.mem_filter, List.mem_range]
    exact ⟨k3, by unfold isLeafAt; rw [g3]; exact k5⟩
  · unfold lenOf sizeOf' depOf
    rw [g3, hdf, ew]
    have : depT t g 0 j' = (wayT t x g 0).length - 1 := by omega
    rw [this]
    rfl

theorem lo_le {l : List Int} {x : Int} (h : x ∈ l) : l.foldl min 4611686018427387904 ≤ x := (min_le_of l _ x).2 (.inr ⟨x, h, Int.le_refl x⟩)
theorem le_hi {l : List Int} {x : Int} (h : x ∈ l) : x ≤ l.foldl max 0 := (le_max_of l _ x).2 (.inr ⟨x, h, Int.le_refl x⟩)

theorem ends_bd {t : TreeP} (h : IsTree t) : 0 ≤ (lenL t).foldl min 4611686018427387904 ∧ (lenL t).foldl min 4611686018427387904 ≤ 556198264832 ∧ 0 ≤ (lenL t).foldl max 0 ∧ (lenL t).foldl max 0 ≤ 556198264832 := by
  obtain ⟨x, l, e⟩ := lenL_ne h
  have hx : x ∈ lenL t := by rw [e]; simp
  have b := lenL_bd h hx
  refine ⟨?_, Int.le_trans (lo_le hx) b.2, Int.le_trans b.1 (le_hi hx), ?_⟩
  · refine Int.not_lt.1 fun hc => ?_
    rcases (min_le_of (lenL t) 4611686018427387904 (-1)).1 (by omega) with h' | ⟨y, hy, h'⟩
    · omega
    · have := lenL_bd h hy; omega
  · refine Int.not_lt.1 fun hc => ?_
    rcases (le_max_of (lenL t) 0 556198264833).1 (by omega) with h' | ⟨y, hy, h'⟩
    · omega
    · have := lenL_bd h hy; omega
end Go.Proofs.Ytdbonlpkmncggaa
