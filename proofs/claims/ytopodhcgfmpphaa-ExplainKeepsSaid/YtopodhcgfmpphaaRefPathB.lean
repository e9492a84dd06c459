/-
  Walks of copseref11.Above and of copseref12.Length, Trail.
-/
import Derived.Test.YtopodhcgfmpphaaRefPathA
namespace Go.Proofs.Ytopodhcgfmpphaa
open Go.RowKit

set_option maxRecDepth 100000 in
set_option maxHeartbeats 4000000 in
theorem rabove_any (v vx : Value) (t : TreeP) (x : List Int) (w : World) (h : TreeR w v t) (hx : Ints .i64 w vx x) (hB : treeB t = true) (hV : vecB x t.dim = true) :
    Calls Try.prog 22 #[v, vx] w fun e w' => ∃ vo, e = .returned vo ∧ Ints .i64 w' vo ((wayL t x).map fun (j : Nat) => (j : Int)) ∧ Below w.heap.size w w' := by
  have HTR := Lib.hid h
  have HX := Lib.hid hx
  obtain ⟨nv, rfl, ad, cc, rfl, _, _, q3, _⟩ := h
  obtain ⟨ax, cx, rfl, _⟩ := hx
  obtain ⟨_, _, h0, s0, hsub, hs64, hlog⟩ := treeB_true.1 hB
  have h6 : h0 ≤ 6 := Nat.le_trans hlog (logI_le hs64)
  have ew : wayL t x = wayT t x h0 0 := (hsub.way x 6 h6).1
  obtain ⟨b, o, rfl⟩ := HTR.out.addr (i := 0) (by have := hsub.lt; omega)
  have HSUB := Lib.hid hsub
  have HEW := Lib.hid ew
  have HVV := Lib.hid hV
  clear hB hsub hs64 hlog ew hV
  obtain ⟨n, hn⟩ : ∃ n, t.nodes.length = n := ⟨_, rfl⟩
  rw [hn] at q3 HTR HSUB ⊢
  have HL := Lib.hid hn
  obtain ⟨D, hD⟩ : ∃ D, t.dim = D := ⟨_, rfl⟩
  rw [hD] at HTR ⊢
  obtain ⟨m, hm⟩ : ∃ m, x.length = m := ⟨_, rfl⟩
  rw [hm] at HX ⊢
  have HM := Lib.hid hm
  clear hn hD hm
  go_enter Try.func22, Try.ntmps22
  go_wp2_with fail
  go_loopw [5, 6, 7, 8] (fun out i _ _ wr => ∃ (j e h : Nat) (s : Int) (dn : List Nat) (gg cp : Nat), out = .slice (some ⟨gg, 0, none⟩) (dn.length + 1) cp ∧ i = .int .i64 j ∧ Sub t j e h s ∧ wayL t x = dn ++ wayT t x h j ∧ dn.length + h ≤ 6 ∧ wr.ownsRow (w.heap.size + 1) 3 1 out (dn.length + 1) ((dn ++ [j]).map fun (j : Nat) => .int .i64 (j : Int)) ∧ Below w.heap.size w wr ∧ w.heap.size + 1 ≤ wr.heap.size ∧ wr.cell? ⟨w.heap.size, 0, none⟩ = some (.int .i64 D) ∧ wr.cell? ⟨w.heap.size, 1, none⟩ = some (.slice (some ⟨b, o, none⟩) n cc)) (fun out _ _ _ _ => match out with | .slice _ l _ => 20 - l | _ => 0)
  case atStart =>
    refine ⟨0, _, _, _, [], w.heap.size + 1, 1, rfl, rfl, HSUB.out, by rw [List.nil_append]; exact HEW.out, by show 0 + h0 ≤ 6; omega, ?_, by (repeat (first | with_reducible exact Below.refl _ _ | ((with_reducible refine Below.setCell ?_ ?_ _); rotate_left; (focus (first | omega | (simp; done) | (simp; omega)))) | ((with_reducible refine Below.alloc ?_ ?_ _); rotate_left; (focus (first | omega | (simp; done) | (simp; omega)))) | (with_reducible refine Below.drew ?_) | (with_reducible refine below_drewN ?_ _))), by simp, by go_simp, by go_simp⟩
    have hl := World.ownsRow_lit (base := w.heap.size + 1) (e := 3) (size := 1) (w.alloc (.cells #[.int .i64 D, .slice (some ⟨b, o, none⟩) n cc] 24)) #[.int .i64 0] 1 (by simp) (by simp [maxLen]) rfl
    rw [World.size_alloc] at hl
    exact hl
  case round =>
    obtain ⟨j, e, h, s, dn, gg, cp, rfl, rfl, hsub, hway, hdh, hown, hbr, hsz, y0, y1⟩ := hrel
    have HBR := Lib.hid hbr
    have HOWN := Lib.hid hown
    have HW := Lib.hid hway
    obtain ⟨nd, hnd, _⟩ := hsub.at_
    have hjn : (j : Int) < n := by have := hsub.lt; have := HL.out; omega
    have hj0 : (0 : Int) ≤ j := by omega
    obtain ⟨hbw, hat⟩ := (HTR.out.below hbr).node hnd
    obtain ⟨ca, ccc, hci, e0, e1, e2, e3, e4⟩ := hat.val
    have HCI := Lib.hid hci
    have HXW := Lib.hid (HX.out.below hbr)
    rcases hsub.inv hnd with ⟨hl, _, hh, _⟩ | ⟨m', a', b', x', y', k1, k2, k3, k4, k5, k6, k7, k8⟩
    · obtain ⟨l1, _⟩ := leafB_is hl
      have HLN := Lib.hid (show wayL t x = dn ++ [j] by rw [hway, wayT_leaf hnd l1])
      rw [l1] at e2
      have i5 := Ints.own (l := (dn ++ [j]).map (fun (j : Nat) => (j : Int))) (by rw [List.map_map]; exact hown) (by simp; omega)
      have I5 := Lib.hid i5.2
      clear hsub hway hnd hat hci hl l1 hh hown hbr i5
      go_wp2_with fail
      exact bodyPost_ret (v := .slice (some ⟨gg, 0, none⟩) (dn.length + 1) cp) (by simp [results, Try.results22, go_sem]) rfl ⟨_, rfl, by rw [HLN.out]; exact I5.out, HBR.out⟩
    · have hl0 : ¬ nd.left = 0 := by omega
      have hmt : nd.right.toNat = m' := by omega
      have HQ1 := Lib.hid k3
      have HQ2 := Lib.hid k5
      have hcl := fun W (hW : Ints .i64 W (.slice ca nd.coef.length ccc) nd.coef) (hX : Ints .i64 W (.slice ax m cx) x) => rcleft_any _ _ nd.coef x nd.at_ W hW hX
      rw [leftR_ok k2 HVV.out] at hcl
      have hw0 := wayT_node (x := x) hnd hl0 (max a' b')
      rw [hmt] at hw0
      have hway2 : wayL t x = (dn ++ [j]) ++ wayT t x (max a' b') (if leftB nd x then j + 1 else m') := by
        rw [hway, k7, Nat.add_comm 1, hw0, List.append_assoc]; rfl
      have HWY := Lib.hid hway2
      unfold leftB at HWY
      obtain ⟨LB, hlb⟩ : ∃ LB, decide (dotI nd.coef x < nd.at_) = LB := ⟨_, rfl⟩
      rw [hlb] at hcl HWY
      have HCL := Lib.hid hcl
      rw [k1] at e2
      rw [k4] at e3
      have hh : dn.length + 1 + max a' b' ≤ 6 := by omega
      clear hsub hway hnd hat hci hl0 hmt hcl hw0 hway2 k1 k2 k3 k4 k5 k6 k7 k8 hlb hown hbr
      generalize nd.at_ = xat at *
      generalize nd.size = xz at *
      generalize nd.coef.length = cl at *
      cases LB with
      | true =>
        have HWN := Lib.hid (show wayL t x = (dn ++ [j]) ++ wayT t x a' (j + 1) by rw [HWY.out, if_pos rfl, (HQ1.out.way x _ (Nat.le_max_left _ _)).1])
        go_wp2_with fail
        (with_reducible refine (HCL.out _ HCI.out HXW.out).mono ?_)
        rintro e w4 ⟨rfl, b4⟩
        have B4 := Lib.hid b4
        have t0 := (b4.cell (p := ⟨w.heap.size, 0, none⟩) (by first | omega | (simp; done) | (simp; omega))).trans y0
        have t1 := (b4.cell (p := ⟨w.heap.size, 1, none⟩) (by first | omega | (simp; done) | (simp; omega))).trans y1
        have z2 := (b4.cell (p := ⟨b, o + j * 5 + 2, none⟩) hbw).trans e2
        have z3 := (b4.cell (p := ⟨b, o + j * 5 + 3, none⟩) hbw).trans e3
        have own4 := own_keep HOWN.out fun g _ hg => b4.block g hg
        have OWN4 := Lib.hid own4
        have s4 := b4.size
        clear b4 own4
        go_wp2_with (at_builtin; go_must (refine app1 rfl _ _ 25 rfl Try.underlying25 eiInt (w.heap.size + 1) (by rfl) OWN4.out (by rfl) rfl (by simp [Value.oneCell']) (by omega) (by omega) ?_))
        intro v5 w5 hown5 hb5 _
        obtain ⟨g5, c5, rfl⟩ : ∃ g cp, v5 = .slice (some ⟨g, 0, none⟩) (dn.length + 1 + 1) cp := by
          rcases hown5.2 with ⟨_, h0⟩ | ⟨g, cap, cur, e, _⟩
          · omega
          · exact ⟨g, cap, e⟩
        have u0 := (hb5.cell (p := ⟨w.heap.size, 0, none⟩) (by simp)).trans t0
        have u1 := (hb5.cell (p := ⟨w.heap.size, 1, none⟩) (by simp)).trans t1
        have s5 := hb5.size
        have OWN5 := Lib.hid hown5
        have B5 := Lib.hid (show Below w.heap.size w w5 from below_tr (below_tr HBR.out (B4.out.mono (by omega))) (hb5.mono (by omega)))
        clear hown5 hb5 t0 t1
        go_wp2_with fail
        go_roundw
        case rel =>
          refine ⟨j + 1, _, _, _, dn ++ [j], g5, c5, by rw [List.length_append, List.length_singleton], by go_num, HQ1.out, HWN.out, by rw [List.length_append, List.length_singleton]; omega, ?_, B5.out, by omega, u0, u1⟩
          have hown := OWN5.out
          rw [List.length_append, List.length_singleton, List.map_append]
          simpa using hown
        case measure => show 20 - (dn.length + 1 + 1) < 20 - (dn.length + 1); omega
      | false =>
        have HWN := Lib.hid (show wayL t x = (dn ++ [j]) ++ wayT t x b' m' by rw [HWY.out, if_neg (by decide), (HQ2.out.way x _ (Nat.le_max_right _ _)).1])
        go_wp2_with fail
        (with_reducible refine (HCL.out _ HCI.out HXW.out).mono ?_)
        rintro e w4 ⟨rfl, b4⟩
        have B4 := Lib.hid b4
        have t0 := (b4.cell (p := ⟨w.heap.size, 0, none⟩) (by first | omega | (simp; done) | (simp; omega))).trans y0
        have t1 := (b4.cell (p := ⟨w.heap.size, 1, none⟩) (by first | omega | (simp; done) | (simp; omega))).trans y1
        have z2 := (b4.cell (p := ⟨b, o + j * 5 + 2, none⟩) hbw).trans e2
        have z3 := (b4.cell (p := ⟨b, o + j * 5 + 3, none⟩) hbw).trans e3
        have own4 := own_keep HOWN.out fun g _ hg => b4.block g hg
        have OWN4 := Lib.hid own4
        have s4 := b4.size
        clear b4 own4
        go_wp2_with (at_builtin; go_must (refine app1 rfl _ _ 25 rfl Try.underlying25 eiInt (w.heap.size + 1) (by rfl) OWN4.out (by rfl) rfl (by simp [Value.oneCell']) (by omega) (by omega) ?_))
        intro v5 w5 hown5 hb5 _
        obtain ⟨g5, c5, rfl⟩ : ∃ g cp, v5 = .slice (some ⟨g, 0, none⟩) (dn.length + 1 + 1) cp := by
          rcases hown5.2 with ⟨_, h0⟩ | ⟨g, cap, cur, e, _⟩
          · omega
          · exact ⟨g, cap, e⟩
        have u0 := (hb5.cell (p := ⟨w.heap.size, 0, none⟩) (by simp)).trans t0
        have u1 := (hb5.cell (p := ⟨w.heap.size, 1, none⟩) (by simp)).trans t1
        have s5 := hb5.size
        have OWN5 := Lib.hid hown5
        have B5 := Lib.hid (show Below w.heap.size w w5 from below_tr (below_tr HBR.out (B4.out.mono (by omega))) (hb5.mono (by omega)))
        clear hown5 hb5 t0 t1
        go_wp2_with fail
        go_roundw
        case rel =>
          refine ⟨m', _, _, _, dn ++ [j], g5, c5, by rw [List.length_append, List.length_singleton], by go_num, HQ2.out, HWN.out, by rw [List.length_append, List.length_singleton]; omega, ?_, B5.out, by omega, u0, u1⟩
          have hown := OWN5.out
          rw [List.length_append, List.length_singleton, List.map_append]
          simpa using hown
        case measure => show 20 - (dn.length + 1 + 1) < 20 - (dn.length + 1); omega

set_option maxRecDepth 100000 in
set_option maxHeartbeats 2000000 in
theorem rlength_any (v vx : Value) (t : TreeP) (x : List Int) (w : World) (h : TreeR w v t) (hx : Ints .i64 w vx x) :
    Calls Try.prog 111 #[v, vx] w fun e w' => e = .returned (.tuple #[.int .i64 (if pathE t x = 0 then lenV t x else 0), .int .i64 (pathE t x)]) ∧ Below w.heap.size w w' := by
  have HTR := Lib.hid h
  have HX := Lib.hid hx
  have HW := Lib.hid (fun W (hW : TreeR W v t) (hX : Ints .i64 W vx x) => rleaf_any v vx t x W hW hX)
  have HF := Lib.hid (fun (h : treeB t = true) => lastW_way (x := x) h)
  obtain ⟨nv, rfl, ad, cc, rfl, _, _, q3, hcell⟩ := h
  by_cases hz : pathE t x = 0
  · rw [hz] at HW ⊢
    have htb : treeB t = true := by
      unfold pathE at hz
      split at hz
      · assumption
      · omega
    obtain ⟨j, nd, g1, g2, g3, g4, g5, g6, g7⟩ := HF.out htb
    simp only [if_true] at HW ⊢
    rw [g2] at HW
    rw [g4]
    obtain ⟨K, hK⟩ : ∃ K, (wayL t x).length - 1 = K := ⟨_, rfl⟩
    rw [hK] at HW ⊢
    have hK7 : (K : Int) ≤ 6 := by omega
    obtain ⟨b, o, rfl⟩ := HTR.out.addr (i := j) g7
    obtain ⟨hb, hat⟩ := HTR.out.node g3
    obtain ⟨_, _, _, _, _, _, _, e4⟩ := hat.val
    have HN := Lib.hid (fun W => rnorm_any nd.size W)
    have hnb := norm_bd nd.size
    have e2 : normI nd.size = (loN (heldN nd.size) + hiN (heldN nd.size)) / 2 := rfl
    have hn1 : 0 ≤ normI nd.size := by omega
    have hn2 : normI nd.size ≤ 549755813888 := by omega
    have hj0 : (0 : Int) ≤ j := by omega
    have hjn : (j : Int) < t.nodes.length := by omega
    generalize normI nd.size = nz at *
    generalize nd.size = xz at *
    clear hz htb g1 g2 g3 g4 g5 g6 g7 hK hat hnb e2 hcell hx HF
    generalize t.nodes.length = n at *
    generalize t.dim = D at *
    go_enter Try.func111, Try.ntmps111
    go_wp2_with fail
    (with_reducible refine (HW.out _ (HTR.out.below (by (repeat (first | with_reducible exact Below.refl _ _ | ((with_reducible refine Below.setCell ?_ ?_ _); rotate_left; (focus (first | omega | (simp; done) | (simp; omega)))) | ((with_reducible refine Below.alloc ?_ ?_ _); rotate_left; (focus (first | omega | (simp; done) | (simp; omega)))) | (with_reducible refine Below.drew ?_) | (with_reducible refine below_drewN ?_ _))))) (HX.out.below (by (repeat (first | with_reducible exact Below.refl _ _ | ((with_reducible refine Below.setCell ?_ ?_ _); rotate_left; (focus (first | omega | (simp; done) | (simp; omega)))) | ((with_reducible refine Below.alloc ?_ ?_ _); rotate_left; (focus (first | omega | (simp; done) | (simp; omega)))) | (with_reducible refine Below.drew ?_) | (with_reducible refine below_drewN ?_ _)))))).mono ?_); rintro e w1 ⟨rfl, b1⟩; have s1 : w.heap.size + 1 ≤ w1.heap.size := (by have := b1.size; first | omega | (simp at this; omega)); have B1 := Lib.hid (show Below w.heap.size w w1 from below_tr (by (repeat (first | with_reducible exact Below.refl _ _ | ((with_reducible refine Below.setCell ?_ ?_ _); rotate_left; (focus (first | omega | (simp; done) | (simp; omega)))) | ((with_reducible refine Below.alloc ?_ ?_ _); rotate_left; (focus (first | omega | (simp; done) | (simp; omega)))) | (with_reducible refine Below.drew ?_) | (with_reducible refine below_drewN ?_ _)))) (b1.mono (by first | omega | (simp; done) | (simp; omega)))); have c1_0 : w1.cell? ⟨w.heap.size, 0, none⟩ = some (.int .i64 D) := (b1.cell (by first | omega | (simp; done) | (simp; omega))).trans (by go_simp); have c1_1 : w1.cell? ⟨w.heap.size, 1, none⟩ = some (.slice (some ⟨b, o, none⟩) n cc) := (b1.cell (by first | omega | (simp; done) | (simp; omega))).trans (by go_simp); have l1_0 : w.heap.size < w1.heap.size := (by omega); have n1_0 : w.heap.size ≠ w1.heap.size := (by omega); have m1_0 : w1.heap.size ≠ w.heap.size := (by omega); clear b1
    have k4 := (B1.out.cell (p := ⟨b, o + j * 5 + 4, none⟩) hb).trans e4
    go_wp2_with fail
    refine (HN.out _).mono ?_
    rintro e w2 ⟨rfl, dd, rfl⟩
    go_wp2_with fail
    exact bodyPost_ret (v := .tuple #[.int .i64 ((K : Int) * 1073741824 + nz), .int .i64 0]) (by simp [results, Try.results111, go_sem]) rfl ⟨rfl, by (repeat (first | with_reducible exact Below.refl _ _ | ((with_reducible refine Below.setCell ?_ ?_ _); rotate_left; (focus (first | omega | (simp; done) | (simp; omega)))) | ((with_reducible refine Below.alloc ?_ ?_ _); rotate_left; (focus (first | omega | (simp; done) | (simp; omega)))) | (with_reducible refine Below.drew ?_) | (with_reducible refine below_drewN ?_ _) | ((with_reducible refine Below.trans ?_ (Below.mono B1.out ?_)); rotate_left; (focus (first | omega | (simp; done) | (simp; omega))))))⟩
  · simp only [if_neg hz] at HW ⊢
    obtain ⟨E, hE⟩ : ∃ E, pathE t x = E := ⟨_, rfl⟩
    rw [hE] at hz HW ⊢
    have j1 : (E != 0) = true := by simp [hz]
    clear hcell hx hE hz HF
    generalize t.nodes.length = n at *
    generalize t.dim = D at *
    go_enter Try.func111, Try.ntmps111
    go_wp2_with fail
    (with_reducible refine (HW.out _ (HTR.out.below (by (repeat (first | with_reducible exact Below.refl _ _ | ((with_reducible refine Below.setCell ?_ ?_ _); rotate_left; (focus (first | omega | (simp; done) | (simp; omega)))) | ((with_reducible refine Below.alloc ?_ ?_ _); rotate_left; (focus (first | omega | (simp; done) | (simp; omega)))) | (with_reducible refine Below.drew ?_) | (with_reducible refine below_drewN ?_ _))))) (HX.out.below (by (repeat (first | with_reducible exact Below.refl _ _ | ((with_reducible refine Below.setCell ?_ ?_ _); rotate_left; (focus (first | omega | (simp; done) | (simp; omega)))) | ((with_reducible refine Below.alloc ?_ ?_ _); rotate_left; (focus (first | omega | (simp; done) | (simp; omega)))) | (with_reducible refine Below.drew ?_) | (with_reducible refine below_drewN ?_ _)))))).mono ?_); rintro e w1 ⟨rfl, b1⟩; have s1 : w.heap.size + 1 ≤ w1.heap.size := (by have := b1.size; first | omega | (simp at this; omega)); have B1 := Lib.hid (show Below w.heap.size w w1 from below_tr (by (repeat (first | with_reducible exact Below.refl _ _ | ((with_reducible refine Below.setCell ?_ ?_ _); rotate_left; (focus (first | omega | (simp; done) | (simp; omega)))) | ((with_reducible refine Below.alloc ?_ ?_ _); rotate_left; (focus (first | omega | (simp; done) | (simp; omega)))) | (with_reducible refine Below.drew ?_) | (with_reducible refine below_drewN ?_ _)))) (b1.mono (by first | omega | (simp; done) | (simp; omega)))); have c1_0 : w1.cell? ⟨w.heap.size, 0, none⟩ = some (.int .i64 D) := (b1.cell (by first | omega | (simp; done) | (simp; omega))).trans (by go_simp); have c1_1 : w1.cell? ⟨w.heap.size, 1, none⟩ = some (.slice ad n cc) := (b1.cell (by first | omega | (simp; done) | (simp; omega))).trans (by go_simp); have l1_0 : w.heap.size < w1.heap.size := (by omega); have n1_0 : w.heap.size ≠ w1.heap.size := (by omega); have m1_0 : w1.heap.size ≠ w.heap.size := (by omega); clear b1
    go_wp2_with fail
    exact bodyPost_ret (v := .tuple #[.int .i64 0, .int .i64 E]) (by simp [results, Try.results111, go_sem]) rfl ⟨rfl, by (repeat (first | with_reducible exact Below.refl _ _ | ((with_reducible refine Below.setCell ?_ ?_ _); rotate_left; (focus (first | omega | (simp; done) | (simp; omega)))) | ((with_reducible refine Below.alloc ?_ ?_ _); rotate_left; (focus (first | omega | (simp; done) | (simp; omega)))) | (with_reducible refine Below.drew ?_) | (with_reducible refine below_drewN ?_ _) | ((with_reducible refine Below.trans ?_ (Below.mono B1.out ?_)); rotate_left; (focus (first | omega | (simp; done) | (simp; omega))))))⟩

end Go.Proofs.Ytopodhcgfmpphaa
