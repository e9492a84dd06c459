/-
  ForL: Walks of forest.Alone and copseref14.Alone.
-/
import Derived.Test.YtdbonlpkmncggaaKForK
namespace Go.Proofs.Ytdbonlpkmncggaa
open Go.RowKit

theorem aloneV_no {l : List (TreeP × Int)} {x : List Int} (h : askE l x ≠ 0) : aloneV l x = 0 := by unfold aloneV; rw [if_neg h]
theorem aloneV_yes {l : List (TreeP × Int)} {x : List Int} (h : askE l x = 0) : aloneV l x = (aloneK l x l.length : Int) := by unfold aloneV; rw [if_pos h]

theorem leaf_node {t : TreeP} {x : List Int} (h : treeB t = true) : ∃ nd, t.nodes[lastW (wayL t x)]? = some nd ∧ lastW (wayL t x) < t.nodes.length := by
  obtain ⟨j, n, g1, g2, g3, _, _, _, g7⟩ := lastW_way (x := x) h
  exact ⟨n, by rw [g2]; exact g3, by rw [g2]; exact g7⟩

set_option maxRecDepth 100000 in
set_option maxHeartbeats 4000000 in
theorem falone_any (v vx : Value) (l : List (TreeP × Int)) (x : List Int) (w : World) (h : GrownsR w v l) (hx : Ints .i64 w vx x) :
    Calls Try.prog 28 #[v, vx] w fun e w' => e = .returned (.tuple #[.int .i64 (aloneV l x), .int .i64 (askE l x)]) ∧ Below w.heap.size w w' := by
  have HG := Lib.hid h
  have HX := Lib.hid hx
  obtain ⟨E, hE⟩ : ∃ E, askE l x = E := ⟨_, rfl⟩
  have HA := Lib.hid (fun W (hW : GrownsR W v l) (hX : Ints .i64 W vx x) => hE ▸ fasked_any v vx l x W hW hX)
  obtain ⟨ad, cc, rfl, _, _, q3, _⟩ := h
  obtain ⟨n, hnn⟩ : ∃ n, l.length = n := ⟨_, rfl⟩
  rw [hnn] at q3 HG HA ⊢
  have HN := Lib.hid hnn
  clear hx hnn
  by_cases hz : E = 0
  · subst hz
    obtain ⟨hF, hn1, hV⟩ := askE_ok hE
    have hn16 := isF_len hF
    rw [HN.out] at hn1 hn16
    have HF := Lib.hid hF
    have HE := Lib.hid hE
    rw [aloneV_yes hE, hE, HN.out]
    clear hE hF hV
    go_enter Try.func28, Try.ntmps28
    go_wp2_with fail
    (with_reducible refine (HA.out _ (HG.out.below (by (repeat (first | with_reducible exact Below.refl _ _ | with_reducible refine Bs ?_ | with_reducible refine Ba ?_ | with_reducible refine Bd ?_ | with_reducible refine Bn ?_)))) (HX.out.below (by (repeat (first | with_reducible exact Below.refl _ _ | with_reducible refine Bs ?_ | with_reducible refine Ba ?_ | with_reducible refine Bd ?_ | with_reducible refine Bn ?_))))).mono ?_)
    rintro e w1 ⟨rfl, b1⟩
    have B1 := Lib.hid (show Below w.heap.size w w1 from below_tr (by (repeat (first | with_reducible exact Below.refl _ _ | with_reducible refine Bs ?_ | with_reducible refine Ba ?_ | with_reducible refine Bd ?_ | with_reducible refine Bn ?_))) (b1.mono (by first | exact Nat.le_refl _ | (simp; done))))
    clear b1
    go_wp2_with fail
    go_loopw [7, 9, 10, 11, 12, 21] (fun c _ _ _ _ idx wr => ∃ j : Nat, idx = .int .i64 j ∧ j ≤ n ∧ c = .int .i64 (aloneK l x j : Nat) ∧ Below w.heap.size w wr) (fun _ _ _ _ _ idx _ => n - (intOf idx).toNat)
    case atStart => exact ⟨0, rfl, by omega, rfl, B1.out⟩
    case round =>
      obtain ⟨j, rfl, hj, rfl, hbr⟩ := hrel
      have BR := Lib.hid hbr
      have hz := hbr.size
      clear hbr
      by_cases hlt : j < n
      · obtain ⟨p, hp⟩ := getElem?_ex (l := l) (k := j) (by rw [HN.out]; exact hlt)
        obtain ⟨b, o, na, nc, rfl, hb, c0, c1, c2, _, hnp⟩ := growns_at HG.out hp
        have e0 := (BR.out.cell (p := ⟨b, o + j * 3, none⟩) hb).trans c0
        have e1 := (BR.out.cell (p := ⟨b, o + j * 3 + 1, none⟩) hb).trans c1
        have e2 := (BR.out.cell (p := ⟨b, o + j * 3 + 2, none⟩) hb).trans c2
        have HT := Lib.hid (show TreeR w (.agg #[.int .i64 p.1.dim, .slice na p.1.nodes.length nc]) p.1 from ⟨_, rfl, hnp⟩)
        have hll := fun (W : World) (hW : TreeR W (.agg #[.int .i64 p.1.dim, .slice na p.1.nodes.length nc]) p.1) (hX : Ints .i64 W vx x) => leafT_any _ vx p.1 x W hW hX
        rw [askE_path HE.out hp] at hll
        simp only [if_true] at hll
        have HLL := Lib.hid hll
        obtain ⟨nd, hnd, hndl⟩ := leaf_node (x := x) (isF_at HF.out hp).2.1
        have HAK := Lib.hid (show aloneK l x (j + 1) = aloneK l x j + (if nd.size = 1 then 1 else 0) by
          rw [aloneK_succ hp]
          unfold al1
          rw [hnd]
          show _ + (if decide (nd.size = 1) = true then 1 else 0) = _
          by_cases h : nd.size = 1 <;> simp [h])
        obtain ⟨b5, o5, rfl⟩ := HT.out.addr hndl
        obtain ⟨hb5, hat⟩ := HT.out.node hnd
        obtain ⟨_, _, _, _, _, _, _, x4⟩ := hat.val
        have hal := aloneK_le l x j
        have i1 : (0 : Int) ≤ (j : Int) := by omega
        have i2 : (j : Int) < (n : Int) := by omega
        have hbz : b < wr.heap.size := by omega
        have hbz2 : b ≠ wr.heap.size := by omega
        clear hll c0 c1 c2 hp hnp hnd hat
        generalize lastW (wayL p.1 x) = J at *
        generalize (((wayL p.1 x).length - 1 : Nat) : Int) = JD at *
        generalize p.1.nodes.length = tn at *
        generalize p.1.dim = d at *
        generalize p.2 = z at *
        obtain ⟨A, hA⟩ : ∃ A, aloneK l x j = A := ⟨_, rfl⟩
        rw [hA] at HAK hal
        rw [hA]
        have hJ0 : (0 : Int) ≤ (J : Int) := by omega
        have hJn : (J : Int) < (tn : Int) := by omega
        have hA2 : (A : Int) ≤ 16 := by omega
        have hA3 : (0 : Int) ≤ (A : Int) := by omega
        clear hA
        by_cases h1 : nd.size = 1
        · have HAK2 := Lib.hid (show aloneK l x (j + 1) = A + 1 by rw [HAK.out, if_pos h1])
          rw [h1] at x4
          clear HAK h1
          go_wp2_with fail
          (with_reducible refine (HLL.out _ ((HT.out.below BR.out).below (by (repeat (first | with_reducible exact Below.refl _ _ | with_reducible refine Bs ?_ | with_reducible refine Ba ?_ | with_reducible refine Bd ?_ | with_reducible refine Bn ?_)))) ((HX.out.below BR.out).below (by (repeat (first | with_reducible exact Below.refl _ _ | with_reducible refine Bs ?_ | with_reducible refine Ba ?_ | with_reducible refine Bd ?_ | with_reducible refine Bn ?_))))).mono ?_)
          rintro e w4 ⟨rfl, b4⟩
          have B4 := Lib.hid (show Below wr.heap.size wr w4 from below_tr (by (repeat (first | with_reducible exact Below.refl _ _ | with_reducible refine Bs ?_ | with_reducible refine Ba ?_ | with_reducible refine Bd ?_ | with_reducible refine Bn ?_))) (b4.mono (by first | omega | (simp; done) | (simp; omega))))
          have y0 : w4.cell? ⟨wr.heap.size, 0, none⟩ = some (.int .i64 d) := (b4.cell (by first | omega | (simp; done) | (simp; omega))).trans (by go_simp)
          have y1 : w4.cell? ⟨wr.heap.size, 1, none⟩ = some (.slice (some ⟨b5, o5, none⟩) tn nc) := (b4.cell (by first | omega | (simp; done) | (simp; omega))).trans (by go_simp)
          have y2 : w4.cell? ⟨wr.heap.size, 2, none⟩ = some (.int .i64 z) := (b4.cell (by first | omega | (simp; done) | (simp; omega))).trans (by go_simp)
          have y4 : w4.cell? ⟨b5, o5 + J * 5 + 4, none⟩ = some (.int .i64 1) := ((BR.out.trans (B4.out.mono hz)).cell (p := ⟨b5, o5 + J * 5 + 4, none⟩) hb5).trans x4
          clear b4
          go_wp2_with fail
          go_roundw
          case rel => exact ⟨j + 1, by go_num, by omega, by rw [HAK2.out]; go_num, BR.out.trans (B4.out.mono hz)⟩
          case measure => simp [intOf] <;> omega
        · have HAK2 := Lib.hid (show aloneK l x (j + 1) = A by rw [HAK.out, if_neg h1, Nat.add_zero])
          have j1 : (nd.size == 1) = false := by simp [h1]
          clear HAK h1
          generalize nd.size = sz at *
          go_wp2_with fail
          (with_reducible refine (HLL.out _ ((HT.out.below BR.out).below (by (repeat (first | with_reducible exact Below.refl _ _ | with_reducible refine Bs ?_ | with_reducible refine Ba ?_ | with_reducible refine Bd ?_ | with_reducible refine Bn ?_)))) ((HX.out.below BR.out).below (by (repeat (first | with_reducible exact Below.refl _ _ | with_reducible refine Bs ?_ | with_reducible refine Ba ?_ | with_reducible refine Bd ?_ | with_reducible refine Bn ?_))))).mono ?_)
          rintro e w4 ⟨rfl, b4⟩
          have B4 := Lib.hid (show Below wr.heap.size wr w4 from below_tr (by (repeat (first | with_reducible exact Below.refl _ _ | with_reducible refine Bs ?_ | with_reducible refine Ba ?_ | with_reducible refine Bd ?_ | with_reducible refine Bn ?_))) (b4.mono (by first | omega | (simp; done) | (simp; omega))))
          have y0 : w4.cell? ⟨wr.heap.size, 0, none⟩ = some (.int .i64 d) := (b4.cell (by first | omega | (simp; done) | (simp; omega))).trans (by go_simp)
          have y1 : w4.cell? ⟨wr.heap.size, 1, none⟩ = some (.slice (some ⟨b5, o5, none⟩) tn nc) := (b4.cell (by first | omega | (simp; done) | (simp; omega))).trans (by go_simp)
          have y2 : w4.cell? ⟨wr.heap.size, 2, none⟩ = some (.int .i64 z) := (b4.cell (by first | omega | (simp; done) | (simp; omega))).trans (by go_simp)
          have y4 : w4.cell? ⟨b5, o5 + J * 5 + 4, none⟩ = some (.int .i64 sz) := ((BR.out.trans (B4.out.mono hz)).cell (p := ⟨b5, o5 + J * 5 + 4, none⟩) hb5).trans x4
          clear b4
          go_wp2_with fail
          go_roundw
          case rel => exact ⟨j + 1, by go_num, by omega, by rw [HAK2.out], BR.out.trans (B4.out.mono hz)⟩
          case measure => simp [intOf] <;> omega
      · obtain rfl : j = n := by omega
        go_wp2_with fail
        exact bodyPost_ret (v := .tuple #[.int .i64 (aloneK l x j : Nat), .int .i64 0]) (by simp [results, Try.results28, go_sem]) rfl ⟨rfl, BR.out⟩
  · rw [aloneV_no (show askE l x ≠ 0 by rw [hE]; exact hz), hE]
    have j0 : (E != 0) = true := by simp [hz]
    clear hE hz
    go_enter Try.func28, Try.ntmps28
    go_wp2_with fail
    (with_reducible refine (HA.out _ (HG.out.below (by (repeat (first | with_reducible exact Below.refl _ _ | with_reducible refine Bs ?_ | with_reducible refine Ba ?_ | with_reducible refine Bd ?_ | with_reducible refine Bn ?_)))) (HX.out.below (by (repeat (first | with_reducible exact Below.refl _ _ | with_reducible refine Bs ?_ | with_reducible refine Ba ?_ | with_reducible refine Bd ?_ | with_reducible refine Bn ?_))))).mono ?_)
    rintro e w1 ⟨rfl, b1⟩
    have B1 := Lib.hid b1
    clear b1
    go_wp2_with fail
    exact bodyPost_ret (v := .tuple #[.int .i64 0, .int .i64 E]) (by simp [results, Try.results28, go_sem]) rfl ⟨rfl, by (repeat (first | with_reducible exact Below.refl _ _ | with_reducible refine Bs ?_ | with_reducible refine Ba ?_ | with_reducible refine Bd ?_ | with_reducible refine Bn ?_ | with_reducible refine Bt B1.out ?_))⟩

set_option maxRecDepth 100000 in
set_option maxHeartbeats 4000000 in
theorem ralone14_any (v vx : Value) (l : List (TreeP × Int)) (x : List Int) (w : World) (h : GrownsR w v l) (hx : Ints .i64 w vx x) :
    Calls Try.prog 29 #[v, vx] w fun e w' => e = .returned (.tuple #[.int .i64 (aloneV l x), .int .i64 (askE l x)]) ∧ Below w.heap.size w w' := by
  have HG := Lib.hid h
  have HX := Lib.hid hx
  obtain ⟨E, hE⟩ : ∃ E, askE l x = E := ⟨_, rfl⟩
  have HA := Lib.hid (fun W (hW : GrownsR W v l) (hX : Ints .i64 W vx x) => hE ▸ rasked14_any v vx l x W hW hX)
  obtain ⟨ad, cc, rfl, _, _, q3, _⟩ := h
  obtain ⟨n, hnn⟩ : ∃ n, l.length = n := ⟨_, rfl⟩
  rw [hnn] at q3 HG HA ⊢
  have HN := Lib.hid hnn
  clear hx hnn
  by_cases hz : E = 0
  · subst hz
    obtain ⟨hF, hn1, hV⟩ := askE_ok hE
    have hn16 := isF_len hF
    rw [HN.out] at hn1 hn16
    have HF := Lib.hid hF
    have HE := Lib.hid hE
    rw [aloneV_yes hE, hE, HN.out]
    clear hE hF hV
    go_enter Try.func29, Try.ntmps29
    go_wp2_with fail
    (with_reducible refine (HA.out _ (HG.out.below (by (repeat (first | with_reducible exact Below.refl _ _ | with_reducible refine Bs ?_ | with_reducible refine Ba ?_ | with_reducible refine Bd ?_ | with_reducible refine Bn ?_)))) (HX.out.below (by (repeat (first | with_reducible exact Below.refl _ _ | with_reducible refine Bs ?_ | with_reducible refine Ba ?_ | with_reducible refine Bd ?_ | with_reducible refine Bn ?_))))).mono ?_)
    rintro e w1 ⟨rfl, b1⟩
    have B1 := Lib.hid (show Below w.heap.size w w1 from below_tr (by (repeat (first | with_reducible exact Below.refl _ _ | with_reducible refine Bs ?_ | with_reducible refine Ba ?_ | with_reducible refine Bd ?_ | with_reducible refine Bn ?_))) (b1.mono (by first | exact Nat.le_refl _ | (simp; done))))
    clear b1
    go_wp2_with fail
    go_loopw [7, 8, 9, 10, 11] (fun c idx _ _ _ wr => ∃ j : Nat, idx = .int .i64 j ∧ j ≤ n ∧ c = .int .i64 (aloneK l x j : Nat) ∧ Below w.heap.size w wr) (fun _ idx _ _ _ _ => n - (intOf idx).toNat)
    case atStart => exact ⟨0, rfl, by omega, rfl, B1.out⟩
    case round =>
      obtain ⟨j, rfl, hj, rfl, hbr⟩ := hrel
      have BR := Lib.hid hbr
      have hz := hbr.size
      clear hbr
      by_cases hlt : j < n
      · obtain ⟨p, hp⟩ := getElem?_ex (l := l) (k := j) (by rw [HN.out]; exact hlt)
        obtain ⟨b, o, na, nc, rfl, hb, c0, c1, c2, _, hnp⟩ := growns_at HG.out hp
        have e0 := (BR.out.cell (p := ⟨b, o + j * 3, none⟩) hb).trans c0
        have e1 := (BR.out.cell (p := ⟨b, o + j * 3 + 1, none⟩) hb).trans c1
        have e2 := (BR.out.cell (p := ⟨b, o + j * 3 + 2, none⟩) hb).trans c2
        have HT := Lib.hid (show TreeR w (.agg #[.int .i64 p.1.dim, .slice na p.1.nodes.length nc]) p.1 from ⟨_, rfl, hnp⟩)
        have hll := fun (W : World) (hW : TreeR W (.agg #[.int .i64 p.1.dim, .slice na p.1.nodes.length nc]) p.1) (hX : Ints .i64 W vx x) => rleaf_any _ vx p.1 x W hW hX
        rw [askE_path HE.out hp] at hll
        simp only [if_true] at hll
        have HLL := Lib.hid hll
        obtain ⟨nd, hnd, hndl⟩ := leaf_node (x := x) (isF_at HF.out hp).2.1
        have HAK := Lib.hid (show aloneK l x (j + 1) = aloneK l x j + (if nd.size = 1 then 1 else 0) by
          rw [aloneK_succ hp]
          unfold al1
          rw [hnd]
          show _ + (if decide (nd.size = 1) = true then 1 else 0) = _
          by_cases h : nd.size = 1 <;> simp [h])
        obtain ⟨b5, o5, rfl⟩ := HT.out.addr hndl
        obtain ⟨hb5, hat⟩ := HT.out.node hnd
        obtain ⟨_, _, _, _, _, _, _, x4⟩ := hat.val
        have hal := aloneK_le l x j
        have i1 : (0 : Int) ≤ (j : Int) := by omega
        have i2 : (j : Int) < (n : Int) := by omega
        have hbz : b < wr.heap.size := by omega
        have hbz2 : b ≠ wr.heap.size := by omega
        clear hll c0 c1 c2 hp hnp hnd hat
        generalize lastW (wayL p.1 x) = J at *
        generalize (((wayL p.1 x).length - 1 : Nat) : Int) = JD at *
        generalize p.1.nodes.length = tn at *
        generalize p.1.dim = d at *
        generalize p.2 = z at *
        obtain ⟨A, hA⟩ : ∃ A, aloneK l x j = A := ⟨_, rfl⟩
        rw [hA] at HAK hal
        rw [hA]
        have hJ0 : (0 : Int) ≤ (J : Int) := by omega
        have hJn : (J : Int) < (tn : Int) := by omega
        have hA2 : (A : Int) ≤ 16 := by omega
        have hA3 : (0 : Int) ≤ (A : Int) := by omega
        clear hA
        by_cases h1 : nd.size = 1
        · have HAK2 := Lib.hid (show aloneK l x (j + 1) = A + 1 by rw [HAK.out, if_pos h1])
          rw [h1] at x4
          clear HAK h1
          go_wp2_with fail
          (with_reducible refine (HLL.out _ ((HT.out.below BR.out).below (by (repeat (first | with_reducible exact Below.refl _ _ | with_reducible refine Bs ?_ | with_reducible refine Ba ?_ | with_reducible refine Bd ?_ | with_reducible refine Bn ?_)))) ((HX.out.below BR.out).below (by (repeat (first | with_reducible exact Below.refl _ _ | with_reducible refine Bs ?_ | with_reducible refine Ba ?_ | with_reducible refine Bd ?_ | with_reducible refine Bn ?_))))).mono ?_)
          rintro e w4 ⟨rfl, b4⟩
          have B4 := Lib.hid (show Below wr.heap.size wr w4 from below_tr (by (repeat (first | with_reducible exact Below.refl _ _ | with_reducible refine Bs ?_ | with_reducible refine Ba ?_ | with_reducible refine Bd ?_ | with_reducible refine Bn ?_))) (b4.mono (by first | omega | (simp; done) | (simp; omega))))
          have y0 : w4.cell? ⟨b, o + j * 3, none⟩ = some (.int .i64 d) := (B4.out.cell (p := ⟨b, o + j * 3, none⟩) hbz).trans e0
          have y1 : w4.cell? ⟨b, o + j * 3 + 1, none⟩ = some (.slice (some ⟨b5, o5, none⟩) tn nc) := (B4.out.cell (p := ⟨b, o + j * 3 + 1, none⟩) hbz).trans e1
          have y2 : w4.cell? ⟨b, o + j * 3 + 2, none⟩ = some (.int .i64 z) := (B4.out.cell (p := ⟨b, o + j * 3 + 2, none⟩) hbz).trans e2
          have y4 : w4.cell? ⟨b5, o5 + J * 5 + 4, none⟩ = some (.int .i64 1) := ((BR.out.trans (B4.out.mono hz)).cell (p := ⟨b5, o5 + J * 5 + 4, none⟩) hb5).trans x4
          clear b4
          go_wp2_with fail
          go_roundw
          case rel => exact ⟨j + 1, by go_num, by omega, by rw [HAK2.out]; go_num, BR.out.trans (B4.out.mono hz)⟩
          case measure => simp [intOf] <;> omega
        · have HAK2 := Lib.hid (show aloneK l x (j + 1) = A by rw [HAK.out, if_neg h1, Nat.add_zero])
          have j1 : (nd.size == 1) = false := by simp [h1]
          clear HAK h1
          generalize nd.size = sz at *
          go_wp2_with fail
          (with_reducible refine (HLL.out _ ((HT.out.below BR.out).below (by (repeat (first | with_reducible exact Below.refl _ _ | with_reducible refine Bs ?_ | with_reducible refine Ba ?_ | with_reducible refine Bd ?_ | with_reducible refine Bn ?_)))) ((HX.out.below BR.out).below (by (repeat (first | with_reducible exact Below.refl _ _ | with_reducible refine Bs ?_ | with_reducible refine Ba ?_ | with_reducible refine Bd ?_ | with_reducible refine Bn ?_))))).mono ?_)
          rintro e w4 ⟨rfl, b4⟩
          have B4 := Lib.hid (show Below wr.heap.size wr w4 from below_tr (by (repeat (first | with_reducible exact Below.refl _ _ | with_reducible refine Bs ?_ | with_reducible refine Ba ?_ | with_reducible refine Bd ?_ | with_reducible refine Bn ?_))) (b4.mono (by first | omega | (simp; done) | (simp; omega))))
          have y0 : w4.cell? ⟨b, o + j * 3, none⟩ = some (.int .i64 d) := (B4.out.cell (p := ⟨b, o + j * 3, none⟩) hbz).trans e0
          have y1 : w4.cell? ⟨b, o + j * 3 + 1, none⟩ = some (.slice (some ⟨b5, o5, none⟩) tn nc) := (B4.out.cell (p := ⟨b, o + j * 3 + 1, none⟩) hbz).trans e1
          have y2 : w4.cell? ⟨b, o + j * 3 + 2, none⟩ = some (.int .i64 z) := (B4.out.cell (p := ⟨b, o + j * 3 + 2, none⟩) hbz).trans e2
          have y4 : w4.cell? ⟨b5, o5 + J * 5 + 4, none⟩ = some (.int .i64 sz) := ((BR.out.trans (B4.out.mono hz)).cell (p := ⟨b5, o5 + J * 5 + 4, none⟩) hb5).trans x4
          clear b4
          go_wp2_with fail
          go_roundw
          case rel => exact ⟨j + 1, by go_num, by omega, by rw [HAK2.out], BR.out.trans (B4.out.mono hz)⟩
          case measure => simp [intOf] <;> omega
      · obtain rfl : j = n := by omega
        go_wp2_with fail
        exact bodyPost_ret (v := .tuple #[.int .i64 (aloneK l x j : Nat), .int .i64 0]) (by simp [results, Try.results29, go_sem]) rfl ⟨rfl, BR.out⟩
  · rw [aloneV_no (show askE l x ≠ 0 by rw [hE]; exact hz), hE]
    have j0 : (E != 0) = true := by simp [hz]
    clear hE hz
    go_enter Try.func29, Try.ntmps29
    go_wp2_with fail
    (with_reducible refine (HA.out _ (HG.out.below (by (repeat (first | with_reducible exact Below.refl _ _ | with_reducible refine Bs ?_ | with_reducible refine Ba ?_ | with_reducible refine Bd ?_ | with_reducible refine Bn ?_)))) (HX.out.below (by (repeat (first | with_reducible exact Below.refl _ _ | with_reducible refine Bs ?_ | with_reducible refine Ba ?_ | with_reducible refine Bd ?_ | with_reducible refine Bn ?_))))).mono ?_)
    rintro e w1 ⟨rfl, b1⟩
    have B1 := Lib.hid b1
    clear b1
    go_wp2_with fail
    exact bodyPost_ret (v := .tuple #[.int .i64 0, .int .i64 E]) (by simp [results, Try.results29, go_sem]) rfl ⟨rfl, by (repeat (first | with_reducible exact Below.refl _ _ | with_reducible refine Bs ?_ | with_reducible refine Ba ?_ | with_reducible refine Bd ?_ | with_reducible refine Bn ?_ | with_reducible refine Bt B1.out ?_))⟩

end Go.Proofs.Ytdbonlpkmncggaa
