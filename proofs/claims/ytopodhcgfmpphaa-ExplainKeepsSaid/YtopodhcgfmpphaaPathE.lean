/-
  Walk of path.Sum.
-/
import Derived.Test.YtopodhcgfmpphaaPathD
namespace Go.Proofs.Ytopodhcgfmpphaa
open Go.RowKit

/-- v is a slice of trees. -/
def TreesR (w : World) (v : Value) (l : List TreeP) : Prop :=
  ∃ a c, v = .slice a l.length c ∧ l.length ≤ c ∧ c ≤ 9223372036854775807 ∧ l.length ≤ 140737488351232 ∧
    ∀ (i : Nat) (t : TreeP), l[i]? = some t → ∃ b o nv, a = some ⟨b, o, none⟩ ∧ b < w.heap.size ∧ w.cell? ⟨b, o + i * 2, none⟩ = some (.int .i64 t.dim) ∧ w.cell? ⟨b, o + i * 2 + 1, none⟩ = some nv ∧ NodesR w nv t.nodes

theorem TreesR.below {w w' : World} {v : Value} {l : List TreeP} (h : TreesR w v l) (B : Below w.heap.size w w') : TreesR w' v l := by
  obtain ⟨a, c, e, h1, h2, h3, h⟩ := h
  refine ⟨a, c, e, h1, h2, h3, fun i t hi => ?_⟩
  obtain ⟨b, o, nv, e, hb, c0, c1, hn⟩ := h i t hi
  exact ⟨b, o, nv, e, Nat.lt_of_lt_of_le hb B.size, (B.cell (p := ⟨b, _, none⟩) hb).trans c0, (B.cell (p := ⟨b, _, none⟩) hb).trans c1, hn.below B⟩

def dim0 (l : List TreeP) : Int := (l[0]?).elim 0 TreeP.dim
noncomputable def okT (l : List TreeP) (t : TreeP) : Bool := treeB t && decide (t.dim = dim0 l)
noncomputable def allT (l : List TreeP) : Bool := l.all (okT l)
noncomputable def sumE (l : List TreeP) (x : List Int) : Int :=
  if 16 < l.length then 3 else if l.length = 0 then 100 else if allT l = false then 100 else if vecB x (dim0 l) = false then 80 else 0
noncomputable def sumV (l : List TreeP) (x : List Int) : Int := sumI (l.map fun t => lenV t x)

theorem lenV_bd {t : TreeP} {x : List Int} (h : treeB t = true) : 0 ≤ lenV t x ∧ lenV t x ≤ 556198264832 := by
  obtain ⟨j, nd, g1, g2, g3, g4, g5, g6⟩ := way_facts (x := x) h
  have hb := norm_bd nd.size
  have e2 : normI nd.size = (loN (heldN nd.size) + hiN (heldN nd.size)) / 2 := rfl
  unfold lenV
  rw [g1]
  simp only []
  rw [g2]
  show 0 ≤ _ * 1073741824 + normI nd.size ∧ _ * 1073741824 + normI nd.size ≤ 556198264832
  omega

theorem allT_at {l : List TreeP} (h : allT l = true) {i : Nat} {t : TreeP} (hi : l[i]? = some t) : treeB t = true ∧ t.dim = dim0 l := by
  unfold allT at h
  rw [List.all_eq_true] at h
  have := h t (List.mem_of_getElem? hi)
  unfold okT at this
  simpa using this

theorem sum_take_bd {l : List TreeP} {x : List Int} (h : allT l = true) (hl : l.length ≤ 16) (k : Nat) : 0 ≤ sumI ((l.take k).map fun t => lenV t x) ∧ sumI ((l.take k).map fun t => lenV t x) ≤ 8899172237312 := by
  have := sumI_bd (l := (l.take k).map fun t => lenV t x) (b := 556198264832) (by
    intro y hy
    rw [List.mem_map] at hy
    obtain ⟨t, ht, rfl⟩ := hy
    obtain ⟨i, hi⟩ := List.getElem?_of_mem (List.mem_of_mem_take ht)
    exact lenV_bd (allT_at h hi).1)
  have hlen : ((l.take k).map fun t => lenV t x).length ≤ 16 := by simp; omega
  omega

theorem allT_not {l : List TreeP} {i : Nat} {t : TreeP} (hi : l[i]? = some t) (h : okT l t = false) : allT l = false := by
  cases hA : allT l with
  | false => rfl
  | true =>
    unfold allT at hA
    rw [List.all_eq_true] at hA
    rw [hA t (List.mem_of_getElem? hi)] at h
    cases h

set_option maxRecDepth 100000 in
set_option maxHeartbeats 4000000 in
theorem sum_any' (v vx : Value) (l : List TreeP) (x : List Int) (w : World) (h : TreesR w v l) (hx : Ints .i64 w vx x) :
    Calls Try.prog 29 #[v, vx] w fun e w' => e = .returned (.tuple #[.int .i64 (if sumE l x = 0 then sumV l x else 0), .int .i64 (sumE l x)]) ∧ Below w.heap.size w w' := by
  have HTR := Lib.hid h
  have HX := Lib.hid hx
  obtain ⟨ad, cc, rfl, _, _, q3, hcell⟩ := h
  obtain ⟨n, hn⟩ : ∃ n, l.length = n := ⟨_, rfl⟩
  have HL := Lib.hid hn
  unfold sumE
  rw [hn] at q3 HTR ⊢
  clear hn hx
  by_cases h16 : 16 < n
  · rw [if_pos h16]
    have h1 : (16 : Int) < n := by omega
    clear hcell
    go_enter Try.func29, Try.ntmps29
    go_wp2_with fail
    exact bodyPost_ret (v := .tuple #[.int .i64 0, .int .i64 3]) (by simp [results, Try.results29, go_sem]) rfl ⟨rfl, by (repeat (first | with_reducible exact Below.refl _ _ | ((with_reducible refine Below.setCell ?_ ?_ _); rotate_left; (focus (first | omega | (simp; done) | (simp; omega)))) | ((with_reducible refine Below.alloc ?_ ?_ _); rotate_left; (focus (first | omega | (simp; done) | (simp; omega)))) | (with_reducible refine Below.drew ?_) | (with_reducible refine below_drewN ?_ _)))⟩
  · rw [if_neg h16]
    by_cases h0 : n = 0
    · rw [if_pos h0]
      subst h0
      clear hcell
      go_enter Try.func29, Try.ntmps29
      go_wp2_with fail
      exact bodyPost_ret (v := .tuple #[.int .i64 0, .int .i64 100]) (by simp [results, Try.results29, go_sem]) rfl ⟨rfl, by (repeat (first | with_reducible exact Below.refl _ _ | ((with_reducible refine Below.setCell ?_ ?_ _); rotate_left; (focus (first | omega | (simp; done) | (simp; omega)))) | ((with_reducible refine Below.alloc ?_ ?_ _); rotate_left; (focus (first | omega | (simp; done) | (simp; omega)))) | (with_reducible refine Below.drew ?_) | (with_reducible refine below_drewN ?_ _)))⟩
    · rw [if_neg h0]
      obtain ⟨t0, ht0⟩ := getElem?_ex (l := l) (k := 0) (by rw [HL.out]; omega)
      obtain ⟨b, o, _, rfl, hb, cd0, _, _⟩ := hcell 0 t0 ht0
      have hd0 : dim0 l = t0.dim := by unfold dim0; rw [ht0]; rfl
      rw [Nat.zero_mul, Nat.add_zero, ← hd0] at cd0
      have HC := Lib.hid (show ∀ i t, l[i]? = some t → ∃ nv, w.cell? ⟨b, o + i * 2, none⟩ = some (.int .i64 t.dim) ∧ w.cell? ⟨b, o + i * 2 + 1, none⟩ = some nv ∧ NodesR w nv t.nodes from fun i t hi => by
        obtain ⟨b', o', nv, e, _, c0, c1, hn⟩ := hcell i t hi
        injection e with e
        injection e with e1 e2 e3
        subst e1 e2
        exact ⟨nv, c0, c1, hn⟩)
      have j0 : ((n : Int) == 0) = false := by simp; omega
      have hn0 : (0 : Int) < n := by omega
      have hn16 : (n : Int) ≤ 16 := by omega
      clear hcell ht0 hd0
      obtain ⟨D, hD⟩ : ∃ D, dim0 l = D := ⟨_, rfl⟩
      rw [hD] at cd0
      have HD := Lib.hid hD
      clear hD
      have HPOST := Lib.hid (show (if allT l = false then (100 : Int) else if vecB x (dim0 l) = false then 80 else 0) = _ from rfl)
      obtain ⟨E, hE⟩ : ∃ E, (if allT l = false then (100 : Int) else if vecB x (dim0 l) = false then 80 else 0) = E := ⟨_, rfl⟩
      rw [hE]
      have HE := Lib.hid hE
      clear hE HPOST
      obtain ⟨RV, hRV⟩ : ∃ RV, (if E = 0 then sumV l x else 0) = RV := ⟨_, rfl⟩
      rw [hRV]
      have HRV := Lib.hid hRV
      clear hRV
      go_enter Try.func29, Try.ntmps29
      go_wp2_with fail
      go_loopw [7, 21] (fun _ idx wr => ∃ k : Nat, idx = .int .i64 k ∧ k ≤ n ∧ (∀ i t, i < k → l[i]? = some t → okT l t = true) ∧ Below w.heap.size w wr) (fun _ idx _ => n - (intOf idx).toNat)
      case atStart => exact ⟨0, rfl, by omega, fun i t h => by omega, Below.refl _ _⟩
      case round =>
        obtain ⟨k, rfl, hk, hall, hbr⟩ := hrel
        have HA := Lib.hid hall
        have HBR := Lib.hid hbr
        have hsz := hbr.size
        by_cases hlt : k < n
        · obtain ⟨t, ht⟩ := getElem?_ex (l := l) (k := k) (by rw [HL.out]; exact hlt)
          obtain ⟨nv, c0, c1, hnv⟩ := HC.out k t ht
          have e0 := (hbr.cell (p := ⟨b, o + k * 2, none⟩) hb).trans c0
          have e1 := (hbr.cell (p := ⟨b, o + k * 2 + 1, none⟩) hb).trans c1
          have ed := (hbr.cell (p := ⟨b, o, none⟩) hb).trans cd0
          have HT := Lib.hid (show TreeR w (.agg #[.int .i64 t.dim, nv]) t from ⟨nv, rfl, hnv⟩)
          obtain ⟨na, nc, rfl, _⟩ := hnv
          have HK := Lib.hid ht
          have i1 : (0 : Int) ≤ (k : Int) := by omega
          have i2 : (k : Int) < (n : Int) := by omega
          have hbz : b < wr.heap.size := by omega
          have hbz2 : b ≠ wr.heap.size := by omega
          have HOK := Lib.hid (show okT l t = (treeB t && decide (t.dim = D)) by unfold okT; rw [HD.out])
          clear c0 c1 ht hall hbr
          obtain ⟨TB, hTB⟩ : ∃ TB, treeB t = TB := ⟨_, rfl⟩
          have HTI := Lib.hid (fun W (hW : TreeR W (.agg #[.int .i64 t.dim, .slice na t.nodes.length nc]) t) => hTB ▸ tis_any _ t W hW)
          rw [hTB] at HOK
          clear hTB
          generalize t.nodes.length = tn at *
          obtain ⟨d, hd⟩ : ∃ d, t.dim = d := ⟨_, rfl⟩
          rw [hd] at e0 HT HOK HTI
          clear hd
          cases TB with
          | false =>
            have G := Lib.hid (show E = 100 by rw [← HE.out, if_pos (allT_not HK.out (by rw [HOK.out]; rfl))])
            go_wp2_with fail
            refine wp_region_head_quiet 4 (by kernel_rfl) (by kernel_rfl) ?_; simp only [List.take_succ_cons, List.take_zero, List.drop_succ_cons, List.drop_zero]
            go_wp2_with (go_at_call 76; go_must (with_reducible refine (HTI.out _ ((HT.out.below HBR.out).below (by (repeat (first | with_reducible exact Below.refl _ _ | ((with_reducible refine Below.setCell ?_ ?_ _); rotate_left; (focus (first | omega | (simp; done) | (simp; omega)))) | ((with_reducible refine Below.alloc ?_ ?_ _); rotate_left; (focus (first | omega | (simp; done) | (simp; omega)))) | (with_reducible refine Below.drew ?_) | (with_reducible refine below_drewN ?_ _)))))).mono ?_))
            rintro e w4 ⟨rfl, b4⟩
            have B4 := Lib.hid (show Below wr.heap.size wr w4 from below_tr (by (repeat (first | with_reducible exact Below.refl _ _ | ((with_reducible refine Below.setCell ?_ ?_ _); rotate_left; (focus (first | omega | (simp; done) | (simp; omega)))) | ((with_reducible refine Below.alloc ?_ ?_ _); rotate_left; (focus (first | omega | (simp; done) | (simp; omega)))) | (with_reducible refine Below.drew ?_) | (with_reducible refine below_drewN ?_ _)))) (b4.mono (by first | omega | (simp; done) | (simp; omega))))
            have z0 : w4.cell? ⟨wr.heap.size, 0, none⟩ = some (.int .i64 d) := (b4.cell (by first | omega | (simp; done) | (simp; omega))).trans (by go_simp)
            have z2 : w4.cell? ⟨b, o, none⟩ = some (.int .i64 D) := (b4.cell (by first | omega | (simp; done) | (simp; omega))).trans (by go_simp)
            clear b4
            go_wp2_with fail
            refine QuietNext.of ?_; (repeat (go_big_quiet_step (fail))); refine wpQuiet_nil ?_; intro _ hw1; obtain ⟨nq, hw2⟩ := hw1; subst hw2
            go_wp2_with fail
            exact bodyPost_ret (v := .tuple #[.int .i64 0, .int .i64 100]) (by simp [results, Try.results29, go_sem]) rfl ⟨by rw [← HRV.out, G.out]; rfl, by (repeat (first | with_reducible exact Below.refl _ _ | ((with_reducible refine Below.setCell ?_ ?_ _); rotate_left; (focus (first | omega | (simp; done) | (simp; omega)))) | ((with_reducible refine Below.alloc ?_ ?_ _); rotate_left; (focus (first | omega | (simp; done) | (simp; omega)))) | (with_reducible refine Below.drew ?_) | (with_reducible refine below_drewN ?_ _) | ((with_reducible refine Below.trans ?_ (Below.mono B4.out ?_)); rotate_left; (focus (first | omega | (simp; done) | (simp; omega)))) | ((with_reducible refine Below.trans ?_ (Below.mono HBR.out ?_)); rotate_left; (focus (first | omega | (simp; done) | (simp; omega))))))⟩
          | true =>
            by_cases a1 : d = D
            · subst a1
              have j1 : (d != d) = false := by simp
              have HOT := Lib.hid (show okT l t = true by rw [HOK.out]; simp)
              go_wp2_with fail
              refine wp_region_head_quiet 4 (by kernel_rfl) (by kernel_rfl) ?_; simp only [List.take_succ_cons, List.take_zero, List.drop_succ_cons, List.drop_zero]
              go_wp2_with (go_at_call 76; go_must (with_reducible refine (HTI.out _ ((HT.out.below HBR.out).below (by (repeat (first | with_reducible exact Below.refl _ _ | ((with_reducible refine Below.setCell ?_ ?_ _); rotate_left; (focus (first | omega | (simp; done) | (simp; omega)))) | ((with_reducible refine Below.alloc ?_ ?_ _); rotate_left; (focus (first | omega | (simp; done) | (simp; omega)))) | (with_reducible refine Below.drew ?_) | (with_reducible refine below_drewN ?_ _)))))).mono ?_))
              rintro e w4 ⟨rfl, b4⟩
              have B4 := Lib.hid (show Below wr.heap.size wr w4 from below_tr (by (repeat (first | with_reducible exact Below.refl _ _ | ((with_reducible refine Below.setCell ?_ ?_ _); rotate_left; (focus (first | omega | (simp; done) | (simp; omega)))) | ((with_reducible refine Below.alloc ?_ ?_ _); rotate_left; (focus (first | omega | (simp; done) | (simp; omega)))) | (with_reducible refine Below.drew ?_) | (with_reducible refine below_drewN ?_ _)))) (b4.mono (by first | omega | (simp; done) | (simp; omega))))
              have z0 : w4.cell? ⟨wr.heap.size, 0, none⟩ = some (.int .i64 d) := (b4.cell (by first | omega | (simp; done) | (simp; omega))).trans (by go_simp)
              have z2 : w4.cell? ⟨b, o, none⟩ = some (.int .i64 d) := (b4.cell (by first | omega | (simp; done) | (simp; omega))).trans (by go_simp)
              clear b4
              go_wp2_with fail
              refine QuietNext.of ?_; (repeat (go_big_quiet_step (fail))); refine wpQuiet_nil ?_; intro _ hw1; obtain ⟨nq, hw2⟩ := hw1; subst hw2
              go_wp2_with fail
              go_roundw
              case rel =>
                refine ⟨k + 1, by go_num, by omega, fun i t' hi ht' => ?_, by (repeat (first | with_reducible exact Below.refl _ _ | ((with_reducible refine Below.setCell ?_ ?_ _); rotate_left; (focus (first | omega | (simp; done) | (simp; omega)))) | ((with_reducible refine Below.alloc ?_ ?_ _); rotate_left; (focus (first | omega | (simp; done) | (simp; omega)))) | (with_reducible refine Below.drew ?_) | (with_reducible refine below_drewN ?_ _) | ((with_reducible refine Below.trans ?_ (Below.mono B4.out ?_)); rotate_left; (focus (first | omega | (simp; done) | (simp; omega)))) | ((with_reducible refine Below.trans ?_ (Below.mono HBR.out ?_)); rotate_left; (focus (first | omega | (simp; done) | (simp; omega))))))⟩
                rcases Nat.lt_or_ge i k with h | h
                · exact HA.out i t' h ht'
                · obtain rfl : i = k := by omega
                  rw [HK.out] at ht'
                  injection ht' with ht'
                  subst ht'
                  exact HOT.out
              case measure => simp [intOf] <;> omega
            · have G := Lib.hid (show E = 100 by rw [← HE.out, if_pos (allT_not HK.out (by rw [HOK.out]; simp [a1]))])
              have J1 := Lib.hid (show (d != D) = true by simp [a1])
              clear a1
              have j1 := J1.out
              go_wp2_with fail
              refine wp_region_head_quiet 4 (by kernel_rfl) (by kernel_rfl) ?_; simp only [List.take_succ_cons, List.take_zero, List.drop_succ_cons, List.drop_zero]
              go_wp2_with (go_at_call 76; go_must (with_reducible refine (HTI.out _ ((HT.out.below HBR.out).below (by (repeat (first | with_reducible exact Below.refl _ _ | ((with_reducible refine Below.setCell ?_ ?_ _); rotate_left; (focus (first | omega | (simp; done) | (simp; omega)))) | ((with_reducible refine Below.alloc ?_ ?_ _); rotate_left; (focus (first | omega | (simp; done) | (simp; omega)))) | (with_reducible refine Below.drew ?_) | (with_reducible refine below_drewN ?_ _)))))).mono ?_))
              rintro e w4 ⟨rfl, b4⟩
              have B4 := Lib.hid (show Below wr.heap.size wr w4 from below_tr (by (repeat (first | with_reducible exact Below.refl _ _ | ((with_reducible refine Below.setCell ?_ ?_ _); rotate_left; (focus (first | omega | (simp; done) | (simp; omega)))) | ((with_reducible refine Below.alloc ?_ ?_ _); rotate_left; (focus (first | omega | (simp; done) | (simp; omega)))) | (with_reducible refine Below.drew ?_) | (with_reducible refine below_drewN ?_ _)))) (b4.mono (by first | omega | (simp; done) | (simp; omega))))
              have z0 : w4.cell? ⟨wr.heap.size, 0, none⟩ = some (.int .i64 d) := (b4.cell (by first | omega | (simp; done) | (simp; omega))).trans (by go_simp)
              have z2 : w4.cell? ⟨b, o, none⟩ = some (.int .i64 D) := (b4.cell (by first | omega | (simp; done) | (simp; omega))).trans (by go_simp)
              clear b4
              go_wp2_with fail
              refine QuietNext.of ?_; (repeat (go_big_quiet_step (fail))); refine wpQuiet_nil ?_; intro _ hw1; obtain ⟨nq, hw2⟩ := hw1; subst hw2
              go_wp2_with fail
              exact bodyPost_ret (v := .tuple #[.int .i64 0, .int .i64 100]) (by simp [results, Try.results29, go_sem]) rfl ⟨by rw [← HRV.out, G.out]; rfl, by (repeat (first | with_reducible exact Below.refl _ _ | ((with_reducible refine Below.setCell ?_ ?_ _); rotate_left; (focus (first | omega | (simp; done) | (simp; omega)))) | ((with_reducible refine Below.alloc ?_ ?_ _); rotate_left; (focus (first | omega | (simp; done) | (simp; omega)))) | (with_reducible refine Below.drew ?_) | (with_reducible refine below_drewN ?_ _) | ((with_reducible refine Below.trans ?_ (Below.mono B4.out ?_)); rotate_left; (focus (first | omega | (simp; done) | (simp; omega)))) | ((with_reducible refine Below.trans ?_ (Below.mono HBR.out ?_)); rotate_left; (focus (first | omega | (simp; done) | (simp; omega))))))⟩
        · obtain rfl : k = n := by omega
          have HALL := Lib.hid (show allT l = true by
            unfold allT
            rw [List.all_eq_true]
            intro t ht
            obtain ⟨i, hi⟩ := List.getElem?_of_mem ht
            exact HA.out i t (by have := (List.getElem?_eq_some_iff.1 hi).1; have := HL.out; omega) hi)
          obtain ⟨VB, hVB⟩ : ∃ VB, vecB x D = VB := ⟨_, rfl⟩
          have HEV := Lib.hid (show E = if VB = false then 80 else 0 by rw [← HE.out, HALL.out, HD.out, hVB]; rfl)
          have HPE := Lib.hid (show ∀ i t, l[i]? = some t → pathE t x = if VB = true then 0 else 80 from fun i t hi => by
            obtain ⟨g1, g2⟩ := allT_at HALL.out hi
            unfold pathE
            rw [g1, g2, HD.out, hVB]
            rfl)
          clear hVB
          go_wp2_with fail
          go_loopw [8, 10, 11, 12, 40] (fun sm _ _ _ idx wr => ∃ j : Nat, idx = .int .i64 j ∧ j ≤ k ∧ sm = .int .i64 (sumI ((l.take j).map fun t => lenV t x)) ∧ (j = 0 ∨ VB = true) ∧ Below w.heap.size w wr) (fun _ _ _ _ idx _ => k - (intOf idx).toNat)
          case atStart => exact ⟨0, rfl, by omega, rfl, .inl rfl, by (repeat (first | with_reducible exact Below.refl _ _ | ((with_reducible refine Below.setCell ?_ ?_ _); rotate_left; (focus (first | omega | (simp; done) | (simp; omega)))) | ((with_reducible refine Below.alloc ?_ ?_ _); rotate_left; (focus (first | omega | (simp; done) | (simp; omega)))) | (with_reducible refine Below.drew ?_) | (with_reducible refine below_drewN ?_ _) | ((with_reducible refine Below.trans ?_ (Below.mono HBR.out ?_)); rotate_left; (focus (first | omega | (simp; done) | (simp; omega))))))⟩
          case round =>
            obtain ⟨j, rfl, hj, rfl, hvb, hbr⟩ := hrel
            have HB2 := Lib.hid hbr
            have HVB := Lib.hid hvb
            have hsz2 := hbr.size
            by_cases hlt2 : j < k
            · obtain ⟨t, ht⟩ := getElem?_ex (l := l) (k := j) (by rw [HL.out]; exact hlt2)
              obtain ⟨nv, c0, c1, hnv⟩ := HC.out j t ht
              have e0 := (hbr.cell (p := ⟨b, o + j * 2, none⟩) hb).trans c0
              have e1 := (hbr.cell (p := ⟨b, o + j * 2 + 1, none⟩) hb).trans c1
              have HT := Lib.hid (show TreeR w (.agg #[.int .i64 t.dim, nv]) t from ⟨nv, rfl, hnv⟩)
              obtain ⟨na, nc, rfl, _⟩ := hnv
              have i1 : (0 : Int) ≤ (j : Int) := by omega
              have i2 : (j : Int) < (k : Int) := by omega
              have hsb := sum_take_bd (x := x) HALL.out (by rw [HL.out]; omega) j
              have hb2 := lenV_bd (x := x) (allT_at HALL.out ht).1
              have HSS := Lib.hid (show sumI ((l.take (j + 1)).map fun t => lenV t x) = sumI ((l.take j).map fun t => lenV t x) + lenV t x by rw [take_snoc' ht, List.map_append]; exact sumI_snoc _ _)
              have HLL := Lib.hid (fun W (hW : TreeR W (.agg #[.int .i64 t.dim, .slice na t.nodes.length nc]) t) (hX : Ints .i64 W vx x) => length_any _ vx t x W hW hX)
              rw [HPE.out j t ht] at HLL
              generalize sumI ((l.take j).map fun t => lenV t x) = S at *
              generalize lenV t x = lv at *
              clear c0 c1 ht hbr hvb
              generalize t.nodes.length = tn at *
              generalize t.dim = d at *
              have sb1 := hsb.1
              have sb2 := hsb.2
              have lb1 := hb2.1
              have lb2 := hb2.2
              clear hsb hb2
              cases VB with
              | true =>
                simp only [if_true] at HLL
                go_wp2_with fail
                (with_reducible refine (HLL.out _ ((HT.out.below HB2.out).below (by (repeat (first | with_reducible exact Below.refl _ _ | ((with_reducible refine Below.setCell ?_ ?_ _); rotate_left; (focus (first | omega | (simp; done) | (simp; omega)))) | ((with_reducible refine Below.alloc ?_ ?_ _); rotate_left; (focus (first | omega | (simp; done) | (simp; omega)))) | (with_reducible refine Below.drew ?_) | (with_reducible refine below_drewN ?_ _))))) ((HX.out.below HB2.out).below (by (repeat (first | with_reducible exact Below.refl _ _ | ((with_reducible refine Below.setCell ?_ ?_ _); rotate_left; (focus (first | omega | (simp; done) | (simp; omega)))) | ((with_reducible refine Below.alloc ?_ ?_ _); rotate_left; (focus (first | omega | (simp; done) | (simp; omega)))) | (with_reducible refine Below.drew ?_) | (with_reducible refine below_drewN ?_ _)))))).mono ?_)
                rintro e w4 ⟨rfl, b4⟩
                have B4 := Lib.hid (show Below wr.heap.size wr w4 from below_tr (by (repeat (first | with_reducible exact Below.refl _ _ | ((with_reducible refine Below.setCell ?_ ?_ _); rotate_left; (focus (first | omega | (simp; done) | (simp; omega)))) | ((with_reducible refine Below.alloc ?_ ?_ _); rotate_left; (focus (first | omega | (simp; done) | (simp; omega)))) | (with_reducible refine Below.drew ?_) | (with_reducible refine below_drewN ?_ _)))) (b4.mono (by first | omega | (simp; done) | (simp; omega))))
                clear b4
                go_wp2_with fail
                go_roundw
                case rel => exact ⟨j + 1, by go_num, by omega, by rw [HSS.out], .inr trivial, by (repeat (first | with_reducible exact Below.refl _ _ | ((with_reducible refine Below.setCell ?_ ?_ _); rotate_left; (focus (first | omega | (simp; done) | (simp; omega)))) | ((with_reducible refine Below.alloc ?_ ?_ _); rotate_left; (focus (first | omega | (simp; done) | (simp; omega)))) | (with_reducible refine Below.drew ?_) | (with_reducible refine below_drewN ?_ _) | ((with_reducible refine Below.trans ?_ (Below.mono B4.out ?_)); rotate_left; (focus (first | omega | (simp; done) | (simp; omega)))) | ((with_reducible refine Below.trans ?_ (Below.mono HB2.out ?_)); rotate_left; (focus (first | omega | (simp; done) | (simp; omega))))))⟩
                case measure => simp [intOf] <;> omega
              | false =>
                simp only [Bool.false_eq_true, if_false] at HLL
                have G := Lib.hid (show E = 80 by rw [HEV.out]; rfl)
                go_wp2_with fail
                (with_reducible refine (HLL.out _ ((HT.out.below HB2.out).below (by (repeat (first | with_reducible exact Below.refl _ _ | ((with_reducible refine Below.setCell ?_ ?_ _); rotate_left; (focus (first | omega | (simp; done) | (simp; omega)))) | ((with_reducible refine Below.alloc ?_ ?_ _); rotate_left; (focus (first | omega | (simp; done) | (simp; omega)))) | (with_reducible refine Below.drew ?_) | (with_reducible refine below_drewN ?_ _))))) ((HX.out.below HB2.out).below (by (repeat (first | with_reducible exact Below.refl _ _ | ((with_reducible refine Below.setCell ?_ ?_ _); rotate_left; (focus (first | omega | (simp; done) | (simp; omega)))) | ((with_reducible refine Below.alloc ?_ ?_ _); rotate_left; (focus (first | omega | (simp; done) | (simp; omega)))) | (with_reducible refine Below.drew ?_) | (with_reducible refine below_drewN ?_ _)))))).mono ?_)
                rintro e w4 ⟨rfl, b4⟩
                have B4 := Lib.hid (show Below wr.heap.size wr w4 from below_tr (by (repeat (first | with_reducible exact Below.refl _ _ | ((with_reducible refine Below.setCell ?_ ?_ _); rotate_left; (focus (first | omega | (simp; done) | (simp; omega)))) | ((with_reducible refine Below.alloc ?_ ?_ _); rotate_left; (focus (first | omega | (simp; done) | (simp; omega)))) | (with_reducible refine Below.drew ?_) | (with_reducible refine below_drewN ?_ _)))) (b4.mono (by first | omega | (simp; done) | (simp; omega))))
                clear b4
                go_wp2_with fail
                exact bodyPost_ret (v := .tuple #[.int .i64 0, .int .i64 80]) (by simp [results, Try.results29, go_sem]) rfl ⟨by rw [← HRV.out, G.out]; rfl, by (repeat (first | with_reducible exact Below.refl _ _ | ((with_reducible refine Below.setCell ?_ ?_ _); rotate_left; (focus (first | omega | (simp; done) | (simp; omega)))) | ((with_reducible refine Below.alloc ?_ ?_ _); rotate_left; (focus (first | omega | (simp; done) | (simp; omega)))) | (with_reducible refine Below.drew ?_) | (with_reducible refine below_drewN ?_ _) | ((with_reducible refine Below.trans ?_ (Below.mono B4.out ?_)); rotate_left; (focus (first | omega | (simp; done) | (simp; omega)))) | ((with_reducible refine Below.trans ?_ (Below.mono HB2.out ?_)); rotate_left; (focus (first | omega | (simp; done) | (simp; omega))))))⟩
            · obtain rfl : j = k := by omega
              have G := Lib.hid (show E = 0 by rw [HEV.out]; rcases HVB.out with h | h; (omega); (rw [h]; rfl))
              have G2 := Lib.hid (show sumI ((l.take j).map fun t => lenV t x) = sumV l x by unfold sumV; rw [List.take_of_length_le (by rw [HL.out]; omega)])
              generalize sumI ((l.take j).map fun t => lenV t x) = S at *
              go_wp2_with fail
              exact bodyPost_ret (v := .tuple #[.int .i64 S, .int .i64 0]) (by simp [results, Try.results29, go_sem]) rfl ⟨by rw [← HRV.out, G.out, G2.out]; rfl, HB2.out⟩
end Go.Proofs.Ytopodhcgfmpphaa
