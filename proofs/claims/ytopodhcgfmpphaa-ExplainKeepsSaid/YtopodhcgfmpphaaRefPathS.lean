/-
  Walks of copseref12.All, Sum, Much.
-/
import Derived.Test.YtopodhcgfmpphaaPathE
import Derived.Test.YtopodhcgfmpphaaTail2
import Derived.Test.YtopodhcgfmpphaaRefPathB
namespace Go.Proofs.Ytopodhcgfmpphaa
open Go.RowKit

set_option maxRecDepth 100000 in
set_option maxHeartbeats 4000000 in
theorem rall_any (v : Value) (l : List TreeP) (w : World) (h : TreesR w v l) :
    Calls Try.prog 82 #[v] w fun e w' => e = .returned (.bool (decide (0 < l.length) && allT l)) ∧ Below w.heap.size w w' := by
  obtain ⟨ad, cc, rfl, _, _, q3, hcell⟩ := h
  obtain ⟨n, hn⟩ : ∃ n, l.length = n := ⟨_, rfl⟩
  have HL := Lib.hid hn
  rw [hn] at q3 ⊢
  clear hn
  rcases Nat.eq_zero_or_pos n with h0 | h0
  · subst h0
    clear hcell
    go_enter Try.func82, Try.ntmps82
    go_wp2_with fail
    go_loopw [3] (fun i wr => i = .int .i64 0 ∧ wr = w) (fun i _ => 0)
    case atStart => exact ⟨rfl, rfl⟩
    case round =>
      obtain ⟨rfl, rfl⟩ := hrel
      go_wp2_with fail
      go_ret
      exact ⟨rfl, by (repeat (first | with_reducible exact Below.refl _ _ | ((with_reducible refine Below.setCell ?_ ?_ _); rotate_left; (focus (first | omega | (simp; done) | (simp; omega)))) | ((with_reducible refine Below.alloc ?_ ?_ _); rotate_left; (focus (first | omega | (simp; done) | (simp; omega)))) | (with_reducible refine Below.drew ?_) | (with_reducible refine below_drewN ?_ _)))⟩
  · have hdec : decide (0 < n) = true := by simp [h0]
    rw [hdec, Bool.true_and]
    obtain ⟨t0, ht0⟩ := getElem?_ex (l := l) (k := 0) (by rw [HL.out]; omega)
    obtain ⟨b, o, _, rfl, hb, cd0, _, _⟩ := hcell 0 t0 ht0
    have hd0 : dim0 l = t0.dim := by unfold dim0; rw [ht0]; rfl
    rw [Nat.zero_mul, Nat.add_zero, ← hd0] at cd0
    have HC := Lib.hid (show ∀ i t, l[i]? = some t → ∃ nv, w.cell? ⟨b, o + i * 2, none⟩ = some (.int .i64 t.dim) ∧ w.cell? ⟨b, o + i * 2 + 1, none⟩ = some nv ∧ NodesR w nv t.nodes from fun i t hi => by
      obtain ⟨b', o', nv, e, _, c0, c1, hn⟩ := hcell i t hi
      injection e with e
      injection e with e1 e2 e3
      subst e1 e2
      exact ⟨nv, c0, c1, hn⟩)
    have hn0 : (0 : Int) < n := by omega
    clear hcell ht0 hd0 hdec
    obtain ⟨D, hD⟩ : ∃ D, dim0 l = D := ⟨_, rfl⟩
    rw [hD] at cd0
    have HD := Lib.hid hD
    obtain ⟨E, hE⟩ : ∃ E, allT l = E := ⟨_, rfl⟩
    rw [hE]
    have HE := Lib.hid hE
    clear hE hD
    go_enter Try.func82, Try.ntmps82
    go_wp2_with fail
    go_loopw [3] (fun idx wr => ∃ k : Nat, idx = .int .i64 k ∧ k ≤ n ∧ (∀ i t, i < k → l[i]? = some t → okT l t = true) ∧ Below w.heap.size w wr) (fun idx _ => n - (intOf idx).toNat)
    case atStart => exact ⟨0, rfl, by omega, fun i t h => by omega, Below.refl _ _⟩
    case round =>
      obtain ⟨k, rfl, hk, hall, hbr⟩ := hrel
      have HA := Lib.hid hall
      have HBR := Lib.hid hbr
      have hsz := hbr.size
      by_cases hlt : k < n
      · obtain ⟨t, ht⟩ := getElem?_ex (l := l) (k := k) (by rw [HL.out]; exact hlt)
        obtain ⟨nv, c0, c1, hnv⟩ := HC.out k t ht
        have e0 := (hbr.cell (p := ⟨b, o + k * 2, none⟩) hb).trans c0
        have e1 := (hbr.cell (p := ⟨b, o + k * 2 + 1, none⟩) hb).trans c1
        have ed := (hbr.cell (p := ⟨b, o, none⟩) hb).trans cd0
        have HT := Lib.hid (show TreeR w (.agg #[.int .i64 t.dim, nv]) t from ⟨nv, rfl, hnv⟩)
        obtain ⟨na, nc, rfl, _⟩ := hnv
        have HK := Lib.hid ht
        have i1 : (0 : Int) ≤ (k : Int) := by omega
        have i2 : (k : Int) < (n : Int) := by omega
        have hbz : b < wr.heap.size := by omega
        have HOK := Lib.hid (show okT l t = (treeB t && decide (t.dim = D)) by unfold okT; rw [HD.out])
        clear ht hall hbr
        obtain ⟨TB, hTB⟩ : ∃ TB, treeB t = TB := ⟨_, rfl⟩
        have HTI := Lib.hid (fun W (hW : TreeR W (.agg #[.int .i64 t.dim, .slice na t.nodes.length nc]) t) => hTB ▸ ristree_any _ t W hW)
        rw [hTB] at HOK
        clear hTB
        generalize t.nodes.length = tn at *
        obtain ⟨d, hd⟩ : ∃ d, t.dim = d := ⟨_, rfl⟩
        rw [hd] at e0 c0 HT HOK HTI
        clear hd
        cases TB with
        | false =>
          have G := Lib.hid (show E = false by rw [← HE.out]; exact allT_not HK.out (by rw [HOK.out]; rfl))
          go_wp2_with fail
          refine wp_region_free_head_quiet (.slice (some ⟨b, o, none⟩) n cc) (.int .i64 k) (.pointer (some ⟨b, o + k * 2, none⟩)) 4 (by kernel_rfl) (by kernel_rfl) (by kernel_rfl) (by kernel_rfl) (by kernel_rfl) (by decide) (by kernel_rfl) (fun _ _ _ h => h) (fun _ _ _ h => h) (fun _ _ _ h => h) (Or.inl ⟨rfl, fun w => by go_simp⟩) (Or.inl ⟨rfl, fun w => by go_simp⟩) (Or.inl ⟨rfl, fun w => by go_simp⟩) ?_
          simp only [List.take_succ_cons, List.take_zero, List.drop_succ_cons, List.drop_zero, Act.put, List.setIfInBounds_toArray, List.set_cons_zero, List.set_cons_succ]
          go_wp2_with (go_at_call 20; go_must (with_reducible refine (HTI.out _ ((HT.out.below HBR.out).below (by (repeat (first | with_reducible exact Below.refl _ _ | ((with_reducible refine Below.setCell ?_ ?_ _); rotate_left; (focus (first | omega | (simp; done) | (simp; omega)))) | ((with_reducible refine Below.alloc ?_ ?_ _); rotate_left; (focus (first | omega | (simp; done) | (simp; omega)))) | (with_reducible refine Below.drew ?_) | (with_reducible refine below_drewN ?_ _)))))).mono ?_))
          rintro e w4 ⟨rfl, b4⟩
          have B4 := Lib.hid (show Below wr.heap.size wr w4 from below_tr (by (repeat (first | with_reducible exact Below.refl _ _ | ((with_reducible refine Below.setCell ?_ ?_ _); rotate_left; (focus (first | omega | (simp; done) | (simp; omega)))) | ((with_reducible refine Below.alloc ?_ ?_ _); rotate_left; (focus (first | omega | (simp; done) | (simp; omega)))) | (with_reducible refine Below.drew ?_) | (with_reducible refine below_drewN ?_ _)))) (b4.mono (by first | omega | (simp; done) | (simp; omega))))
          have z0 : w4.cell? ⟨b, o + k * 2, none⟩ = some (.int .i64 d) := (b4.cell (by first | omega | (simp; done) | (simp; omega))).trans (by go_simp)
          have z2 : w4.cell? ⟨b, o, none⟩ = some (.int .i64 D) := (b4.cell (by first | omega | (simp; done) | (simp; omega))).trans (by go_simp)
          clear b4
          go_wp2_with fail
          refine CalmNext.normal ?_; (repeat (go_big_quiet_step (fail))); refine wpQuiet_nil ?_; intro _ hw1; obtain ⟨nq, hw2⟩ := hw1; subst hw2
          go_wp2_with fail
          go_ret
          exact ⟨by rw [G.out]; rfl, by (repeat (first | with_reducible exact Below.refl _ _ | ((with_reducible refine Below.setCell ?_ ?_ _); rotate_left; (focus (first | omega | (simp; done) | (simp; omega)))) | ((with_reducible refine Below.alloc ?_ ?_ _); rotate_left; (focus (first | omega | (simp; done) | (simp; omega)))) | (with_reducible refine Below.drew ?_) | (with_reducible refine below_drewN ?_ _) | ((with_reducible refine Below.trans ?_ (Below.mono B4.out ?_)); rotate_left; (focus (first | omega | (simp; done) | (simp; omega)))) | ((with_reducible refine Below.trans ?_ (Below.mono HBR.out ?_)); rotate_left; (focus (first | omega | (simp; done) | (simp; omega))))))⟩
        | true =>
          by_cases a1 : d = D
          · subst a1
            have j1 : (d != d) = false := by simp
            have HOT := Lib.hid (show okT l t = true by rw [HOK.out]; simp)
            go_wp2_with fail
            refine wp_region_free_head_quiet (.slice (some ⟨b, o, none⟩) n cc) (.int .i64 k) (.pointer (some ⟨b, o + k * 2, none⟩)) 4 (by kernel_rfl) (by kernel_rfl) (by kernel_rfl) (by kernel_rfl) (by kernel_rfl) (by decide) (by kernel_rfl) (fun _ _ _ h => h) (fun _ _ _ h => h) (fun _ _ _ h => h) (Or.inl ⟨rfl, fun w => by go_simp⟩) (Or.inl ⟨rfl, fun w => by go_simp⟩) (Or.inl ⟨rfl, fun w => by go_simp⟩) ?_
            simp only [List.take_succ_cons, List.take_zero, List.drop_succ_cons, List.drop_zero, Act.put, List.setIfInBounds_toArray, List.set_cons_zero, List.set_cons_succ]
            go_wp2_with (go_at_call 20; go_must (with_reducible refine (HTI.out _ ((HT.out.below HBR.out).below (by (repeat (first | with_reducible exact Below.refl _ _ | ((with_reducible refine Below.setCell ?_ ?_ _); rotate_left; (focus (first | omega | (simp; done) | (simp; omega)))) | ((with_reducible refine Below.alloc ?_ ?_ _); rotate_left; (focus (first | omega | (simp; done) | (simp; omega)))) | (with_reducible refine Below.drew ?_) | (with_reducible refine below_drewN ?_ _)))))).mono ?_))
            rintro e w4 ⟨rfl, b4⟩
            have B4 := Lib.hid (show Below wr.heap.size wr w4 from below_tr (by (repeat (first | with_reducible exact Below.refl _ _ | ((with_reducible refine Below.setCell ?_ ?_ _); rotate_left; (focus (first | omega | (simp; done) | (simp; omega)))) | ((with_reducible refine Below.alloc ?_ ?_ _); rotate_left; (focus (first | omega | (simp; done) | (simp; omega)))) | (with_reducible refine Below.drew ?_) | (with_reducible refine below_drewN ?_ _)))) (b4.mono (by first | omega | (simp; done) | (simp; omega))))
            have z0 : w4.cell? ⟨b, o + k * 2, none⟩ = some (.int .i64 d) := (b4.cell (by first | omega | (simp; done) | (simp; omega))).trans (by go_simp)
            have z2 : w4.cell? ⟨b, o, none⟩ = some (.int .i64 d) := (b4.cell (by first | omega | (simp; done) | (simp; omega))).trans (by go_simp)
            clear b4
            go_wp2_with fail
            refine CalmNext.normal ?_; (repeat (go_big_quiet_step (fail))); refine wpQuiet_nil ?_; intro _ hw1; obtain ⟨nq, hw2⟩ := hw1; subst hw2
            go_wp2_with fail
            go_roundw
            case rel =>
              refine ⟨k + 1, by go_num, by omega, fun i t' hi ht' => ?_, by (repeat (first | with_reducible exact Below.refl _ _ | ((with_reducible refine Below.setCell ?_ ?_ _); rotate_left; (focus (first | omega | (simp; done) | (simp; omega)))) | ((with_reducible refine Below.alloc ?_ ?_ _); rotate_left; (focus (first | omega | (simp; done) | (simp; omega)))) | (with_reducible refine Below.drew ?_) | (with_reducible refine below_drewN ?_ _) | ((with_reducible refine Below.trans ?_ (Below.mono B4.out ?_)); rotate_left; (focus (first | omega | (simp; done) | (simp; omega)))) | ((with_reducible refine Below.trans ?_ (Below.mono HBR.out ?_)); rotate_left; (focus (first | omega | (simp; done) | (simp; omega))))))⟩
              rcases Nat.lt_or_ge i k with h | h
              · exact HA.out i t' h ht'
              · obtain rfl : i = k := by omega
                rw [HK.out] at ht'
                injection ht' with ht'
                subst ht'
                exact HOT.out
            case measure => simp [intOf] <;> omega
          · have G := Lib.hid (show E = false by rw [← HE.out]; exact allT_not HK.out (by rw [HOK.out]; simp [a1]))
            have J1 := Lib.hid (show (d != D) = true by simp [a1])
            clear a1
            have j1 := J1.out
            go_wp2_with fail
            refine wp_region_free_head_quiet (.slice (some ⟨b, o, none⟩) n cc) (.int .i64 k) (.pointer (some ⟨b, o + k * 2, none⟩)) 4 (by kernel_rfl) (by kernel_rfl) (by kernel_rfl) (by kernel_rfl) (by kernel_rfl) (by decide) (by kernel_rfl) (fun _ _ _ h => h) (fun _ _ _ h => h) (fun _ _ _ h => h) (Or.inl ⟨rfl, fun w => by go_simp⟩) (Or.inl ⟨rfl, fun w => by go_simp⟩) (Or.inl ⟨rfl, fun w => by go_simp⟩) ?_
            simp only [List.take_succ_cons, List.take_zero, List.drop_succ_cons, List.drop_zero, Act.put, List.setIfInBounds_toArray, List.set_cons_zero, List.set_cons_succ]
            go_wp2_with (go_at_call 20; go_must (with_reducible refine (HTI.out _ ((HT.out.below HBR.out).below (by (repeat (first | with_reducible exact Below.refl _ _ | ((with_reducible refine Below.setCell ?_ ?_ _); rotate_left; (focus (first | omega | (simp; done) | (simp; omega)))) | ((with_reducible refine Below.alloc ?_ ?_ _); rotate_left; (focus (first | omega | (simp; done) | (simp; omega)))) | (with_reducible refine Below.drew ?_) | (with_reducible refine below_drewN ?_ _)))))).mono ?_))
            rintro e w4 ⟨rfl, b4⟩
            have B4 := Lib.hid (show Below wr.heap.size wr w4 from below_tr (by (repeat (first | with_reducible exact Below.refl _ _ | ((with_reducible refine Below.setCell ?_ ?_ _); rotate_left; (focus (first | omega | (simp; done) | (simp; omega)))) | ((with_reducible refine Below.alloc ?_ ?_ _); rotate_left; (focus (first | omega | (simp; done) | (simp; omega)))) | (with_reducible refine Below.drew ?_) | (with_reducible refine below_drewN ?_ _)))) (b4.mono (by first | omega | (simp; done) | (simp; omega))))
            have z0 : w4.cell? ⟨b, o + k * 2, none⟩ = some (.int .i64 d) := (b4.cell (by first | omega | (simp; done) | (simp; omega))).trans (by go_simp)
            have z2 : w4.cell? ⟨b, o, none⟩ = some (.int .i64 D) := (b4.cell (by first | omega | (simp; done) | (simp; omega))).trans (by go_simp)
            clear b4
            go_wp2_with fail
            refine CalmNext.normal ?_; (repeat (go_big_quiet_step (fail))); refine wpQuiet_nil ?_; intro _ hw1; obtain ⟨nq, hw2⟩ := hw1; subst hw2
            go_wp2_with fail
            go_ret
            exact ⟨by rw [G.out]; rfl, by (repeat (first | with_reducible exact Below.refl _ _ | ((with_reducible refine Below.setCell ?_ ?_ _); rotate_left; (focus (first | omega | (simp; done) | (simp; omega)))) | ((with_reducible refine Below.alloc ?_ ?_ _); rotate_left; (focus (first | omega | (simp; done) | (simp; omega)))) | (with_reducible refine Below.drew ?_) | (with_reducible refine below_drewN ?_ _) | ((with_reducible refine Below.trans ?_ (Below.mono B4.out ?_)); rotate_left; (focus (first | omega | (simp; done) | (simp; omega)))) | ((with_reducible refine Below.trans ?_ (Below.mono HBR.out ?_)); rotate_left; (focus (first | omega | (simp; done) | (simp; omega))))))⟩
      · obtain rfl : k = n := by omega
        have HALL := Lib.hid (show E = true by
          rw [← HE.out]
          unfold allT
          rw [List.all_eq_true]
          intro t ht
          obtain ⟨i, hi⟩ := List.getElem?_of_mem ht
          exact HA.out i t (by have := (List.getElem?_eq_some_iff.1 hi).1; have := HL.out; omega) hi)
        go_wp2_with fail
        go_ret
        exact ⟨by rw [HALL.out]; rfl, HBR.out⟩

set_option maxRecDepth 100000 in
set_option maxHeartbeats 4000000 in
theorem rsum12_any (v vx : Value) (l : List TreeP) (x : List Int) (w : World) (h : TreesR w v l) (hx : Ints .i64 w vx x) :
    Calls Try.prog 75 #[v, vx] w fun e w' => e = .returned (.tuple #[.int .i64 (if sumE l x = 0 then sumV l x else 0), .int .i64 (sumE l x)]) ∧ Below w.heap.size w w' := by
  have HTR := Lib.hid h
  have HX := Lib.hid hx
  have HALLC := Lib.hid (fun W (hW : TreesR W v l) => rall_any v l W hW)
  obtain ⟨ad, cc, rfl, _, _, q3, hcell⟩ := h
  unfold sumE
  obtain ⟨n, hn⟩ : ∃ n, l.length = n := ⟨_, rfl⟩
  have HL := Lib.hid hn
  rw [hn] at q3 HTR HALLC ⊢
  clear hn hx
  by_cases h16 : 16 < n
  · rw [if_pos h16]
    have h1 : (16 : Int) < n := by omega
    clear hcell HALLC
    go_enter Try.func75, Try.ntmps75
    go_wp2_with fail
    exact bodyPost_ret (v := .tuple #[.int .i64 0, .int .i64 3]) (by simp [results, Try.results75, go_sem]) rfl ⟨rfl, by (repeat (first | with_reducible exact Below.refl _ _ | ((with_reducible refine Below.setCell ?_ ?_ _); rotate_left; (focus (first | omega | (simp; done) | (simp; omega)))) | ((with_reducible refine Below.alloc ?_ ?_ _); rotate_left; (focus (first | omega | (simp; done) | (simp; omega)))) | (with_reducible refine Below.drew ?_) | (with_reducible refine below_drewN ?_ _)))⟩
  · rw [if_neg h16]
    have hn16 : (n : Int) ≤ 16 := by omega
    by_cases h0 : n = 0
    · rw [if_pos h0]
      subst h0
      rw [show (decide (0 < 0) && allT l) = false from rfl] at HALLC
      clear hcell
      go_enter Try.func75, Try.ntmps75
      go_wp2_with fail
      (with_reducible refine (HALLC.out _ (HTR.out.below (by (repeat (first | with_reducible exact Below.refl _ _ | ((with_reducible refine Below.setCell ?_ ?_ _); rotate_left; (focus (first | omega | (simp; done) | (simp; omega)))) | ((with_reducible refine Below.alloc ?_ ?_ _); rotate_left; (focus (first | omega | (simp; done) | (simp; omega)))) | (with_reducible refine Below.drew ?_) | (with_reducible refine below_drewN ?_ _)))))).mono ?_); rintro e w1 ⟨rfl, b1⟩; have s1 : w.heap.size ≤ w1.heap.size := (by have := b1.size; first | omega | (simp at this; omega)); have B1 := Lib.hid (show Below w.heap.size w w1 from below_tr (by (repeat (first | with_reducible exact Below.refl _ _ | ((with_reducible refine Below.setCell ?_ ?_ _); rotate_left; (focus (first | omega | (simp; done) | (simp; omega)))) | ((with_reducible refine Below.alloc ?_ ?_ _); rotate_left; (focus (first | omega | (simp; done) | (simp; omega)))) | (with_reducible refine Below.drew ?_) | (with_reducible refine below_drewN ?_ _)))) (b1.mono (by first | omega | (simp; done) | (simp; omega)))); clear b1
      go_wp2_with fail
      exact bodyPost_ret (v := .tuple #[.int .i64 0, .int .i64 100]) (by simp [results, Try.results75, go_sem]) rfl ⟨rfl, by (repeat (first | with_reducible exact Below.refl _ _ | ((with_reducible refine Below.setCell ?_ ?_ _); rotate_left; (focus (first | omega | (simp; done) | (simp; omega)))) | ((with_reducible refine Below.alloc ?_ ?_ _); rotate_left; (focus (first | omega | (simp; done) | (simp; omega)))) | (with_reducible refine Below.drew ?_) | (with_reducible refine below_drewN ?_ _) | ((with_reducible refine Below.trans ?_ (Below.mono B1.out ?_)); rotate_left; (focus (first | omega | (simp; done) | (simp; omega))))))⟩
    · rw [if_neg h0]
      rw [show (decide (0 < n) && allT l) = allT l by simp [show 0 < n by omega]] at HALLC
      obtain ⟨t0, ht0⟩ := getElem?_ex (l := l) (k := 0) (by rw [HL.out]; omega)
      obtain ⟨b, o, _, rfl, hb, cd0, _, _⟩ := hcell 0 t0 ht0
      have hd0 : dim0 l = t0.dim := by unfold dim0; rw [ht0]; rfl
      rw [Nat.zero_mul, Nat.add_zero, ← hd0] at cd0
      have HC := Lib.hid (show ∀ i t, l[i]? = some t → ∃ nv, w.cell? ⟨b, o + i * 2, none⟩ = some (.int .i64 t.dim) ∧ w.cell? ⟨b, o + i * 2 + 1, none⟩ = some nv ∧ NodesR w nv t.nodes from fun i t hi => by
        obtain ⟨b', o', nv, e, _, c0, c1, hn⟩ := hcell i t hi
        injection e with e
        injection e with e1 e2 e3
        subst e1 e2
        exact ⟨nv, c0, c1, hn⟩)
      have hn0 : (0 : Int) < n := by omega
      clear hcell ht0 hd0
      cases hA : allT l with
      | false =>
        rw [hA] at HALLC
        rw [if_pos rfl]
        clear hA
        go_enter Try.func75, Try.ntmps75
        go_wp2_with fail
        (with_reducible refine (HALLC.out _ (HTR.out.below (by (repeat (first | with_reducible exact Below.refl _ _ | ((with_reducible refine Below.setCell ?_ ?_ _); rotate_left; (focus (first | omega | (simp; done) | (simp; omega)))) | ((with_reducible refine Below.alloc ?_ ?_ _); rotate_left; (focus (first | omega | (simp; done) | (simp; omega)))) | (with_reducible refine Below.drew ?_) | (with_reducible refine below_drewN ?_ _)))))).mono ?_); rintro e w1 ⟨rfl, b1⟩; have s1 : w.heap.size ≤ w1.heap.size := (by have := b1.size; first | omega | (simp at this; omega)); have B1 := Lib.hid (show Below w.heap.size w w1 from below_tr (by (repeat (first | with_reducible exact Below.refl _ _ | ((with_reducible refine Below.setCell ?_ ?_ _); rotate_left; (focus (first | omega | (simp; done) | (simp; omega)))) | ((with_reducible refine Below.alloc ?_ ?_ _); rotate_left; (focus (first | omega | (simp; done) | (simp; omega)))) | (with_reducible refine Below.drew ?_) | (with_reducible refine below_drewN ?_ _)))) (b1.mono (by first | omega | (simp; done) | (simp; omega)))); clear b1
        go_wp2_with fail
        exact bodyPost_ret (v := .tuple #[.int .i64 0, .int .i64 100]) (by simp [results, Try.results75, go_sem]) rfl ⟨rfl, by (repeat (first | with_reducible exact Below.refl _ _ | ((with_reducible refine Below.setCell ?_ ?_ _); rotate_left; (focus (first | omega | (simp; done) | (simp; omega)))) | ((with_reducible refine Below.alloc ?_ ?_ _); rotate_left; (focus (first | omega | (simp; done) | (simp; omega)))) | (with_reducible refine Below.drew ?_) | (with_reducible refine below_drewN ?_ _) | ((with_reducible refine Below.trans ?_ (Below.mono B1.out ?_)); rotate_left; (focus (first | omega | (simp; done) | (simp; omega))))))⟩
      | true =>
        rw [hA] at HALLC
        have HALL := Lib.hid hA
        clear hA
        have HVI := Lib.hid (fun W (hW : Ints .i64 W vx x) => risv_any vx x (dim0 l) W hW)
        cases hV : vecB x (dim0 l) with
        | false =>
          rw [hV] at HVI
          simp only [Bool.true_eq_false, if_false, if_true, show ¬ (80 : Int) = 0 by decide]
          clear hV
          generalize dim0 l = D at *
          go_enter Try.func75, Try.ntmps75
          go_wp2_with fail
          (with_reducible refine (HALLC.out _ (HTR.out.below (by (repeat (first | with_reducible exact Below.refl _ _ | ((with_reducible refine Below.setCell ?_ ?_ _); rotate_left; (focus (first | omega | (simp; done) | (simp; omega)))) | ((with_reducible refine Below.alloc ?_ ?_ _); rotate_left; (focus (first | omega | (simp; done) | (simp; omega)))) | (with_reducible refine Below.drew ?_) | (with_reducible refine below_drewN ?_ _)))))).mono ?_); rintro e w1 ⟨rfl, b1⟩; have s1 : w.heap.size ≤ w1.heap.size := (by have := b1.size; first | omega | (simp at this; omega)); have B1 := Lib.hid (show Below w.heap.size w w1 from below_tr (by (repeat (first | with_reducible exact Below.refl _ _ | ((with_reducible refine Below.setCell ?_ ?_ _); rotate_left; (focus (first | omega | (simp; done) | (simp; omega)))) | ((with_reducible refine Below.alloc ?_ ?_ _); rotate_left; (focus (first | omega | (simp; done) | (simp; omega)))) | (with_reducible refine Below.drew ?_) | (with_reducible refine below_drewN ?_ _)))) (b1.mono (by first | omega | (simp; done) | (simp; omega)))); clear b1
          have k0 := (B1.out.cell (p := ⟨b, o, none⟩) hb).trans cd0
          go_wp2_with fail
          refine (HVI.out _ (HX.out.below B1.out)).mono ?_
          rintro e w2 ⟨rfl, rfl⟩
          go_wp2_with fail
          exact bodyPost_ret (v := .tuple #[.int .i64 0, .int .i64 80]) (by simp [results, Try.results75, go_sem]) rfl ⟨rfl, by (repeat (first | with_reducible exact Below.refl _ _ | ((with_reducible refine Below.setCell ?_ ?_ _); rotate_left; (focus (first | omega | (simp; done) | (simp; omega)))) | ((with_reducible refine Below.alloc ?_ ?_ _); rotate_left; (focus (first | omega | (simp; done) | (simp; omega)))) | (with_reducible refine Below.drew ?_) | (with_reducible refine below_drewN ?_ _) | ((with_reducible refine Below.trans ?_ (Below.mono B1.out ?_)); rotate_left; (focus (first | omega | (simp; done) | (simp; omega))))))⟩
        | true =>
          rw [hV] at HVI
          simp only [Bool.true_eq_false, if_false, if_true]
          have HPE := Lib.hid (show ∀ i t, l[i]? = some t → pathE t x = 0 from fun i t hi => by
            obtain ⟨g1, g2⟩ := allT_at HALL.out hi
            unfold pathE
            rw [g1, g2, hV]
            rfl)
          clear hV
          obtain ⟨SV, hSV⟩ : ∃ SV, sumV l x = SV := ⟨_, rfl⟩
          rw [hSV]
          have HSV := Lib.hid hSV
          clear hSV
          obtain ⟨D, hD⟩ : ∃ D, dim0 l = D := ⟨_, rfl⟩
          rw [hD] at cd0 HVI
          clear hD
          go_enter Try.func75, Try.ntmps75
          go_wp2_with fail
          (with_reducible refine (HALLC.out _ (HTR.out.below (by (repeat (first | with_reducible exact Below.refl _ _ | ((with_reducible refine Below.setCell ?_ ?_ _); rotate_left; (focus (first | omega | (simp; done) | (simp; omega)))) | ((with_reducible refine Below.alloc ?_ ?_ _); rotate_left; (focus (first | omega | (simp; done) | (simp; omega)))) | (with_reducible refine Below.drew ?_) | (with_reducible refine below_drewN ?_ _)))))).mono ?_); rintro e w1 ⟨rfl, b1⟩; have s1 : w.heap.size ≤ w1.heap.size := (by have := b1.size; first | omega | (simp at this; omega)); have B1 := Lib.hid (show Below w.heap.size w w1 from below_tr (by (repeat (first | with_reducible exact Below.refl _ _ | ((with_reducible refine Below.setCell ?_ ?_ _); rotate_left; (focus (first | omega | (simp; done) | (simp; omega)))) | ((with_reducible refine Below.alloc ?_ ?_ _); rotate_left; (focus (first | omega | (simp; done) | (simp; omega)))) | (with_reducible refine Below.drew ?_) | (with_reducible refine below_drewN ?_ _)))) (b1.mono (by first | omega | (simp; done) | (simp; omega)))); clear b1
          have k0 := (B1.out.cell (p := ⟨b, o, none⟩) hb).trans cd0
          go_wp2_with fail
          refine (HVI.out _ (HX.out.below B1.out)).mono ?_
          rintro e w2 ⟨rfl, rfl⟩
          go_wp2_with fail
          go_loopw [6, 7, 8, 9] (fun sm idx _ _ wr => ∃ j : Nat, idx = .int .i64 j ∧ j ≤ n ∧ sm = .int .i64 (sumI ((l.take j).map fun t => lenV t x)) ∧ Below w.heap.size w wr) (fun _ idx _ _ _ => n - (intOf idx).toNat)
          case atStart => exact ⟨0, rfl, by omega, rfl, by (repeat (first | with_reducible exact Below.refl _ _ | ((with_reducible refine Below.setCell ?_ ?_ _); rotate_left; (focus (first | omega | (simp; done) | (simp; omega)))) | ((with_reducible refine Below.alloc ?_ ?_ _); rotate_left; (focus (first | omega | (simp; done) | (simp; omega)))) | (with_reducible refine Below.drew ?_) | (with_reducible refine below_drewN ?_ _) | ((with_reducible refine Below.trans ?_ (Below.mono B1.out ?_)); rotate_left; (focus (first | omega | (simp; done) | (simp; omega))))))⟩
          case round =>
            obtain ⟨j, rfl, hj, rfl, hbr⟩ := hrel
            have HB2 := Lib.hid hbr
            have hsz2 := hbr.size
            by_cases hlt2 : j < n
            · obtain ⟨t, ht⟩ := getElem?_ex (l := l) (k := j) (by rw [HL.out]; exact hlt2)
              obtain ⟨nv, c0, c1, hnv⟩ := HC.out j t ht
              have e0 := (hbr.cell (p := ⟨b, o + j * 2, none⟩) hb).trans c0
              have e1 := (hbr.cell (p := ⟨b, o + j * 2 + 1, none⟩) hb).trans c1
              have HT := Lib.hid (show TreeR w (.agg #[.int .i64 t.dim, nv]) t from ⟨nv, rfl, hnv⟩)
              obtain ⟨na, nc, rfl, _⟩ := hnv
              have i1 : (0 : Int) ≤ (j : Int) := by omega
              have i2 : (j : Int) < (n : Int) := by omega
              have hsb := sum_take_bd (x := x) HALL.out (by rw [HL.out]; omega) j
              have hb2 := lenV_bd (x := x) (allT_at HALL.out ht).1
              have HSS := Lib.hid (show sumI ((l.take (j + 1)).map fun t => lenV t x) = sumI ((l.take j).map fun t => lenV t x) + lenV t x by rw [take_snoc' ht, List.map_append]; exact sumI_snoc _ _)
              have hll := fun W (hW : TreeR W (.agg #[.int .i64 t.dim, .slice na t.nodes.length nc]) t) (hX : Ints .i64 W vx x) => rlength_any _ vx t x W hW hX
              rw [HPE.out j t ht] at hll
              simp only [if_true] at hll
              have HLL := Lib.hid hll
              clear hll
              generalize sumI ((l.take j).map fun t => lenV t x) = S at *
              generalize lenV t x = lv at *
              clear c0 c1 ht hbr
              generalize t.nodes.length = tn at *
              generalize t.dim = d at *
              have sb1 := hsb.1
              have sb2 := hsb.2
              have lb1 := hb2.1
              have lb2 := hb2.2
              clear hsb hb2
              go_wp2_with fail
              (with_reducible refine (HLL.out _ ((HT.out.below HB2.out).below (by (repeat (first | with_reducible exact Below.refl _ _ | ((with_reducible refine Below.setCell ?_ ?_ _); rotate_left; (focus (first | omega | (simp; done) | (simp; omega)))) | ((with_reducible refine Below.alloc ?_ ?_ _); rotate_left; (focus (first | omega | (simp; done) | (simp; omega)))) | (with_reducible refine Below.drew ?_) | (with_reducible refine below_drewN ?_ _))))) ((HX.out.below HB2.out).below (by (repeat (first | with_reducible exact Below.refl _ _ | ((with_reducible refine Below.setCell ?_ ?_ _); rotate_left; (focus (first | omega | (simp; done) | (simp; omega)))) | ((with_reducible refine Below.alloc ?_ ?_ _); rotate_left; (focus (first | omega | (simp; done) | (simp; omega)))) | (with_reducible refine Below.drew ?_) | (with_reducible refine below_drewN ?_ _)))))).mono ?_)
              rintro e w4 ⟨rfl, b4⟩
              have B4 := Lib.hid (show Below wr.heap.size wr w4 from below_tr (by (repeat (first | with_reducible exact Below.refl _ _ | ((with_reducible refine Below.setCell ?_ ?_ _); rotate_left; (focus (first | omega | (simp; done) | (simp; omega)))) | ((with_reducible refine Below.alloc ?_ ?_ _); rotate_left; (focus (first | omega | (simp; done) | (simp; omega)))) | (with_reducible refine Below.drew ?_) | (with_reducible refine below_drewN ?_ _)))) (b4.mono (by first | omega | (simp; done) | (simp; omega))))
              clear b4
              go_wp2_with fail
              go_roundw
              case rel => exact ⟨j + 1, by go_num, by omega, by rw [HSS.out], by (repeat (first | with_reducible exact Below.refl _ _ | ((with_reducible refine Below.setCell ?_ ?_ _); rotate_left; (focus (first | omega | (simp; done) | (simp; omega)))) | ((with_reducible refine Below.alloc ?_ ?_ _); rotate_left; (focus (first | omega | (simp; done) | (simp; omega)))) | (with_reducible refine Below.drew ?_) | (with_reducible refine below_drewN ?_ _) | ((with_reducible refine Below.trans ?_ (Below.mono B4.out ?_)); rotate_left; (focus (first | omega | (simp; done) | (simp; omega)))) | ((with_reducible refine Below.trans ?_ (Below.mono HB2.out ?_)); rotate_left; (focus (first | omega | (simp; done) | (simp; omega))))))⟩
              case measure => simp [intOf] <;> omega
            · obtain rfl : j = n := by omega
              have G2 := Lib.hid (show sumI ((l.take j).map fun t => lenV t x) = SV by rw [← HSV.out]; unfold sumV; rw [List.take_of_length_le (by rw [HL.out]; omega)])
              generalize sumI ((l.take j).map fun t => lenV t x) = S at *
              go_wp2_with fail
              exact bodyPost_ret (v := .tuple #[.int .i64 S, .int .i64 0]) (by simp [results, Try.results75, go_sem]) rfl ⟨by rw [G2.out], HB2.out⟩
end Go.Proofs.Ytopodhcgfmpphaa
