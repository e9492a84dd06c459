/-
  ForK: Walks of forest.Score, forest.Alone and copseref14.Score, copseref14.Alone.
-/
import Derived.Test.YtdbonlpkmncggaaKForI
import Derived.Test.YtdbonlpkmncggaaJ1a
namespace Go.Proofs.Ytdbonlpkmncggaa
open Go.RowKit

theorem scP_no {l : List (TreeP × Int)} {x : List Int} (h : askE l x ≠ 0) : scP l x = 0 ∧ scQ l x = 0 := by unfold scP scQ; rw [if_neg h, if_neg h]; exact ⟨rfl, rfl⟩
theorem scP_yes {l : List (TreeP × Int)} {x : List Int} (h : askE l x = 0) : scP l x = (sumV (l.map (·.1)) x).tdiv (gcdZ (sumV (l.map (·.1)) x) l.length) ∧ scQ l x = (l.length : Int).tdiv (gcdZ (sumV (l.map (·.1)) x) l.length) := by
  unfold scP scQ; rw [if_pos h, if_pos h]; exact ⟨rfl, rfl⟩

theorem row_scores {w : World} {b : Nat} {T : TypeId} (h : RowAt w b T #[.int .i64 0, .int .i64 0]) : w.cell? ⟨b, 0, none⟩ = some (.int .i64 0) ∧ w.cell? ⟨b, 1, none⟩ = some (.int .i64 0) ∧ w.frozen? ⟨b, 0, none⟩ = false ∧ w.frozen? ⟨b, 1, none⟩ = false := by
  have r0 := h.cell 0
  have r1 := h.cell 1
  simp only [List.getElem?_toArray, List.getElem?_cons_succ, List.getElem?_cons_zero] at r0 r1
  exact ⟨r0, r1, h.frozen 0, h.frozen 1⟩

theorem askE_path {l : List (TreeP × Int)} {x : List Int} (h : askE l x = 0) {i : Nat} {p : TreeP × Int} (hp : l[i]? = some p) : pathE p.1 x = 0 := by
  obtain ⟨h1, _, h3⟩ := askE_ok h
  obtain ⟨_, g1, g2⟩ := isF_at h1 hp
  unfold pathE
  rw [g1, g2, h3]
  rfl

/-- Does the vector come to a leaf of one point? -/
def al1 (x : List Int) (p : TreeP × Int) : Bool := decide ((p.1.nodes[lastW (wayL p.1 x)]?).elim 0 NodeP.size = 1)
def aloneK (l : List (TreeP × Int)) (x : List Int) (k : Nat) : Nat := ((l.take k).filter (al1 x)).length
noncomputable def aloneV (l : List (TreeP × Int)) (x : List Int) : Int := if askE l x = 0 then (aloneK l x l.length : Int) else 0

theorem aloneK_succ {l : List (TreeP × Int)} {x : List Int} {k : Nat} {p : TreeP × Int} (hp : l[k]? = some p) : aloneK l x (k + 1) = aloneK l x k + (if al1 x p = true then 1 else 0) := by
  unfold aloneK
  rw [List.take_add_one, hp, List.filter_append, List.length_append]
  show _ + (List.filter (al1 x) [p]).length = _
  rw [List.filter_cons]
  split <;> rfl

theorem aloneK_le (l : List (TreeP × Int)) (x : List Int) (k : Nat) : aloneK l x k ≤ k := by
  unfold aloneK
  have := List.length_filter_le (al1 x) (l.take k)
  rw [List.length_take] at this
  omega

set_option maxRecDepth 100000 in
set_option maxHeartbeats 4000000 in
theorem fscore_any (v vx : Value) (l : List (TreeP × Int)) (x : List Int) (w : World) (h : GrownsR w v l) (hx : Ints .i64 w vx x) :
    Calls Try.prog 26 #[v, vx] w fun e w' => e = .returned (.tuple #[.agg #[.int .i64 (scP l x), .int .i64 (scQ l x)], .int .i64 (askE l x)]) ∧ Below w.heap.size w w' := by
  have HG := Lib.hid h
  have HX := Lib.hid hx
  obtain ⟨E, hE⟩ : ∃ E, askE l x = E := ⟨_, rfl⟩
  have HA := Lib.hid (fun W (hW : GrownsR W v l) (hX : Ints .i64 W vx x) => hE ▸ fasked_any v vx l x W hW hX)
  obtain ⟨ad, cc, rfl, _, _, q3, _⟩ := h
  obtain ⟨n, hnn⟩ : ∃ n, l.length = n := ⟨_, rfl⟩
  rw [hnn] at q3 HG HA ⊢
  have HN := Lib.hid hnn
  clear hx hnn
  by_cases hz : E = 0
  · subst hz
    obtain ⟨hF, hn1, hV⟩ := askE_ok hE
    have hn16 := isF_len hF
    rw [HN.out] at hn1 hn16
    have HF := Lib.hid hF
    have HE := Lib.hid hE
    have hsb := sumV_small (x := x) (isF_all hF) (by rw [List.length_map, HN.out]; exact hn16)
    obtain ⟨s1, s2⟩ := scP_yes hE
    rw [HN.out] at s1 s2
    obtain ⟨SV, hSV⟩ : ∃ SV, sumV (l.map (·.1)) x = SV := ⟨_, rfl⟩
    rw [hSV] at s1 s2 hsb
    rw [s1, s2, hE]
    have HSV := Lib.hid hSV
    have HSC := Lib.hid (fun W => score_of SV n W hsb.1 hsb.2 hn1 hn16)
    clear hE hF hV s1 s2 hSV
    generalize SV.tdiv (gcdZ SV n) = QP at *
    generalize (n : Int).tdiv (gcdZ SV n) = QQ at *
    go_enter Try.func26, Try.ntmps26
    go_wp2_with fail
    (with_reducible refine (HA.out _ (HG.out.below (by (repeat (first | with_reducible exact Below.refl _ _ | with_reducible refine Bs ?_ | with_reducible refine Ba ?_ | with_reducible refine Bd ?_ | with_reducible refine Bn ?_)))) (HX.out.below (by (repeat (first | with_reducible exact Below.refl _ _ | with_reducible refine Bs ?_ | with_reducible refine Ba ?_ | with_reducible refine Bd ?_ | with_reducible refine Bn ?_))))).mono ?_)
    rintro e w1 ⟨rfl, b1⟩
    have B1 := Lib.hid (show Below w.heap.size w w1 from below_tr (by (repeat (first | with_reducible exact Below.refl _ _ | with_reducible refine Bs ?_ | with_reducible refine Ba ?_ | with_reducible refine Bd ?_ | with_reducible refine Bn ?_))) (b1.mono (by simp)))
    have R1 := Lib.hid (show RowAt w1 w.heap.size 47 #[.int .i64 0, .int .i64 0] from (b1.block _ (by simp)).trans (row_new rfl))
    have z1 : w.heap.size < w1.heap.size := R1.out.lt
    clear b1
    have HPE := Lib.hid (show ∀ i p, l[i]? = some p → pathE p.1 x = 0 from fun i p hp => askE_path HE.out hp)
    go_wp2_with fail
    go_loopw [7, 9, 10, 11, 21] (fun sm _ _ _ idx wr => ∃ j : Nat, idx = .int .i64 j ∧ j ≤ n ∧ sm = .int .i64 (sumI ((l.take j).map fun p => lenV p.1 x)) ∧ Below w1.heap.size w1 wr) (fun _ _ _ _ idx _ => n - (intOf idx).toNat)
    case atStart => exact ⟨0, rfl, by omega, rfl, Below.refl _ _⟩
    case round =>
      obtain ⟨j, rfl, hj, rfl, hbr⟩ := hrel
      have BR := Lib.hid (show Below w.heap.size w wr from B1.out.trans (hbr.mono (by omega)))
      have RR := Lib.hid (show RowAt wr w.heap.size 47 #[.int .i64 0, .int .i64 0] from (hbr.block _ z1).trans R1.out)
      have BR1 := Lib.hid hbr
      have hz := hbr.size
      clear hbr
      by_cases hlt : j < n
      · obtain ⟨p, hp⟩ := getElem?_ex (l := l) (k := j) (by rw [HN.out]; exact hlt)
        obtain ⟨b, o, na, nc, rfl, hb, c0, c1, c2, _, hnp⟩ := growns_at HG.out hp
        have e0 := (BR.out.cell (p := ⟨b, o + j * 3, none⟩) hb).trans c0
        have e1 := (BR.out.cell (p := ⟨b, o + j * 3 + 1, none⟩) hb).trans c1
        have e2 := (BR.out.cell (p := ⟨b, o + j * 3 + 2, none⟩) hb).trans c2
        have HT := Lib.hid (show TreeR w (.agg #[.int .i64 p.1.dim, .slice na p.1.nodes.length nc]) p.1 from ⟨_, rfl, hnp⟩)
        have hll := fun (W : World) (hW : TreeR W (.agg #[.int .i64 p.1.dim, .slice na p.1.nodes.length nc]) p.1) (hX : Ints .i64 W vx x) => length_any _ vx p.1 x W hW hX
        rw [HPE.out j p hp] at hll
        simp only [if_true] at hll
        have HLL := Lib.hid hll
        have hlb := lenV_small (x := x) (isF_at HF.out hp).2.1
        have hsb2 := sumI_bd (l := (l.take j).map fun p => lenV p.1 x) (b := 17179869184) (by
          intro y hy
          rw [List.mem_map] at hy
          obtain ⟨t, ht, rfl⟩ := hy
          obtain ⟨i, hi⟩ := List.getElem?_of_mem (List.mem_of_mem_take ht)
          exact lenV_small (isF_at HF.out hi).2.1)
        have hlen : ((l.take j).map fun p => lenV p.1 x).length ≤ 16 := by rw [List.length_map, List.length_take, HN.out]; omega
        have sb1 := hsb2.1
        have sb2 : sumI ((l.take j).map fun p => lenV p.1 x) ≤ 274877906944 := by omega
        have lb1 := hlb.1
        have lb2 := hlb.2
        have HSS := Lib.hid (show sumI ((l.take (j + 1)).map fun p => lenV p.1 x) = sumI ((l.take j).map fun p => lenV p.1 x) + lenV p.1 x by rw [List.take_add_one, hp, List.map_append]; exact sumI_snoc _ _)
        have i1 : (0 : Int) ≤ (j : Int) := by omega
        have i2 : (j : Int) < (n : Int) := by omega
        have hbz : b < wr.heap.size := by omega
        have hbz2 : b ≠ wr.heap.size := by omega
        clear hsb2 hlen hlb hll c0 c1 c2 hp hnp
        generalize sumI ((l.take j).map fun p => lenV p.1 x) = S at *
        generalize lenV p.1 x = lv at *
        generalize p.1.nodes.length = tn at *
        generalize p.1.dim = d at *
        generalize p.2 = z at *
        go_wp2_with fail
        (with_reducible refine (HLL.out _ ((HT.out.below BR.out).below (by (repeat (first | with_reducible exact Below.refl _ _ | with_reducible refine Bs ?_ | with_reducible refine Ba ?_ | with_reducible refine Bd ?_ | with_reducible refine Bn ?_)))) ((HX.out.below BR.out).below (by (repeat (first | with_reducible exact Below.refl _ _ | with_reducible refine Bs ?_ | with_reducible refine Ba ?_ | with_reducible refine Bd ?_ | with_reducible refine Bn ?_))))).mono ?_)
        rintro e w4 ⟨rfl, b4⟩
        have B4 := Lib.hid (show Below wr.heap.size wr w4 from below_tr (by (repeat (first | with_reducible exact Below.refl _ _ | with_reducible refine Bs ?_ | with_reducible refine Ba ?_ | with_reducible refine Bd ?_ | with_reducible refine Bn ?_))) (b4.mono (by first | omega | (simp; done) | (simp; omega))))
        clear b4
        go_wp2_with fail
        go_roundw
        case rel => exact ⟨j + 1, by go_num, by omega, by rw [HSS.out], BR1.out.trans (B4.out.mono hz)⟩
        case measure => simp [intOf] <;> omega
      · obtain rfl : j = n := by omega
        have hs : sumI ((l.take j).map fun p => lenV p.1 x) = SV := by rw [← HSV.out]; unfold sumV; rw [List.take_of_length_le (by rw [HN.out]; omega), List.map_map]; rfl
        rw [hs]
        clear hs
        go_wp2_with fail
        (with_reducible refine (HSC.out _).mono ?_)
        rintro e w5 ⟨rfl, b5⟩
        obtain ⟨y0, y1, f0, f1⟩ := row_scores (show RowAt w5 w.heap.size 47 #[.int .i64 0, .int .i64 0] from (b5.block _ (by omega)).trans RR.out)
        have B5 := Lib.hid (show Below w.heap.size w w5 from BR.out.trans (b5.mono (by omega)))
        have z5 : w.heap.size < w5.heap.size := by have := b5.size; omega
        clear b5
        go_wp2_with fail
        exact bodyPost_ret (v := .tuple #[.agg #[.int .i64 QP, .int .i64 QQ], .int .i64 0]) (by simp [results, Try.results26, go_sem, y0, y1]) rfl ⟨rfl, by (repeat (first | with_reducible exact Below.refl _ _ | with_reducible refine Bs ?_ | with_reducible refine Ba ?_ | with_reducible refine Bd ?_ | with_reducible refine Bn ?_ | with_reducible refine Bt B5.out ?_))⟩
  · obtain ⟨s1, s2⟩ := scP_no (show askE l x ≠ 0 by rw [hE]; exact hz)
    rw [s1, s2, hE]
    have j0 : (E != 0) = true := by simp [hz]
    clear hE hz s1 s2
    go_enter Try.func26, Try.ntmps26
    go_wp2_with fail
    (with_reducible refine (HA.out _ (HG.out.below (by (repeat (first | with_reducible exact Below.refl _ _ | with_reducible refine Bs ?_ | with_reducible refine Ba ?_ | with_reducible refine Bd ?_ | with_reducible refine Bn ?_)))) (HX.out.below (by (repeat (first | with_reducible exact Below.refl _ _ | with_reducible refine Bs ?_ | with_reducible refine Ba ?_ | with_reducible refine Bd ?_ | with_reducible refine Bn ?_))))).mono ?_)
    rintro e w1 ⟨rfl, b1⟩
    have B1 := Lib.hid (show Below w.heap.size w w1 from below_tr (by (repeat (first | with_reducible exact Below.refl _ _ | with_reducible refine Bs ?_ | with_reducible refine Ba ?_ | with_reducible refine Bd ?_ | with_reducible refine Bn ?_))) (b1.mono (by simp)))
    obtain ⟨y0, y1, f0, f1⟩ := row_scores (show RowAt w1 w.heap.size 47 #[.int .i64 0, .int .i64 0] from (b1.block _ (by simp)).trans (row_new rfl))
    have z1 : w.heap.size < w1.heap.size := by have := b1.size; simp at this; omega
    clear b1
    go_wp2_with fail
    exact bodyPost_ret (v := .tuple #[.agg #[.int .i64 0, .int .i64 0], .int .i64 E]) (by simp [results, Try.results26, go_sem, y0, y1]) rfl ⟨rfl, by (repeat (first | with_reducible exact Below.refl _ _ | with_reducible refine Bs ?_ | with_reducible refine Ba ?_ | with_reducible refine Bd ?_ | with_reducible refine Bn ?_ | with_reducible refine Bt B1.out ?_))⟩

set_option maxRecDepth 100000 in
set_option maxHeartbeats 4000000 in
theorem rscore14_any (v vx : Value) (l : List (TreeP × Int)) (x : List Int) (w : World) (h : GrownsR w v l) (hx : Ints .i64 w vx x) :
    Calls Try.prog 27 #[v, vx] w fun e w' => e = .returned (.tuple #[.agg #[.int .i64 (scP l x), .int .i64 (scQ l x)], .int .i64 (askE l x)]) ∧ Below w.heap.size w w' := by
  have HG := Lib.hid h
  have HX := Lib.hid hx
  obtain ⟨E, hE⟩ : ∃ E, askE l x = E := ⟨_, rfl⟩
  have HA := Lib.hid (fun W (hW : GrownsR W v l) (hX : Ints .i64 W vx x) => hE ▸ rasked14_any v vx l x W hW hX)
  obtain ⟨ad, cc, rfl, _, _, q3, _⟩ := h
  obtain ⟨n, hnn⟩ : ∃ n, l.length = n := ⟨_, rfl⟩
  rw [hnn] at q3 HG HA ⊢
  have HN := Lib.hid hnn
  clear hx hnn
  by_cases hz : E = 0
  · subst hz
    obtain ⟨hF, hn1, hV⟩ := askE_ok hE
    have hn16 := isF_len hF
    rw [HN.out] at hn1 hn16
    have HF := Lib.hid hF
    have HE := Lib.hid hE
    have hsb := sumV_small (x := x) (isF_all hF) (by rw [List.length_map, HN.out]; exact hn16)
    obtain ⟨s1, s2⟩ := scP_yes hE
    rw [HN.out] at s1 s2
    obtain ⟨SV, hSV⟩ : ∃ SV, sumV (l.map (·.1)) x = SV := ⟨_, rfl⟩
    rw [hSV] at s1 s2 hsb
    rw [s1, s2, hE]
    have HSV := Lib.hid hSV
    have HSC := Lib.hid (fun W => r13_of SV n W hsb.1 hsb.2 hn1 hn16)
    clear hE hF hV s1 s2 hSV
    generalize SV.tdiv (gcdZ SV n) = QP at *
    generalize (n : Int).tdiv (gcdZ SV n) = QQ at *
    go_enter Try.func27, Try.ntmps27
    go_wp2_with fail
    (with_reducible refine (HA.out _ (HG.out.below (by (repeat (first | with_reducible exact Below.refl _ _ | with_reducible refine Bs ?_ | with_reducible refine Ba ?_ | with_reducible refine Bd ?_ | with_reducible refine Bn ?_)))) (HX.out.below (by (repeat (first | with_reducible exact Below.refl _ _ | with_reducible refine Bs ?_ | with_reducible refine Ba ?_ | with_reducible refine Bd ?_ | with_reducible refine Bn ?_))))).mono ?_)
    rintro e w1 ⟨rfl, b1⟩
    have B1 := Lib.hid (show Below w.heap.size w w1 from below_tr (by (repeat (first | with_reducible exact Below.refl _ _ | with_reducible refine Bs ?_ | with_reducible refine Ba ?_ | with_reducible refine Bd ?_ | with_reducible refine Bn ?_))) (b1.mono (by simp)))
    have R1 := Lib.hid (show RowAt w1 w.heap.size 47 #[.int .i64 0, .int .i64 0] from (b1.block _ (by simp)).trans (row_new rfl))
    have z1 : w.heap.size < w1.heap.size := R1.out.lt
    clear b1
    have HTT := Lib.hid (fun W (hW : GrownsR W (.slice ad n cc) l) => trees14_in _ l W hW (by rw [HN.out]; omega))
    have hse : sumE (l.map (·.1)) x = 0 := by
      obtain ⟨_, _, hV⟩ := askE_ok HE.out
      unfold sumE
      rw [List.length_map, HN.out, if_neg (by omega), if_neg (by omega), isF_all HF.out, hV]
      rfl
    have hsu := fun v' (W : World) (hW : TreesR W v' (l.map (·.1))) (hX : Ints .i64 W vx x) => rsum12_any v' vx _ x W hW hX
    rw [hse, HSV.out] at hsu
    simp only [if_true] at hsu
    have HSU := Lib.hid hsu
    clear hsu hse
    have HML := Lib.hid (show (l.map (·.1)).length = n by rw [List.length_map, HN.out])
    obtain ⟨L, hL⟩ : ∃ L, l.map (·.1) = L := ⟨_, rfl⟩
    rw [hL] at HTT HSU HML
    clear hL
    go_wp2_with fail
    (with_reducible refine (HTT.out _ (HG.out.below B1.out)).mono ?_)
    rintro e w2 ⟨v2, rfl, t2, b2⟩
    have T2 := Lib.hid t2
    obtain ⟨ta, tc, rfl, _⟩ := t2
    have B2 := Lib.hid (show Below w1.heap.size w1 w2 from b2)
    clear b2
    rw [HML.out] at T2 ⊢
    go_wp2_with fail
    (with_reducible refine (HSU.out _ _ T2.out ((HX.out.below B1.out).below B2.out)).mono ?_)
    rintro e w3 ⟨rfl, b3⟩
    have B3 := Lib.hid (show Below w1.heap.size w1 w3 from B2.out.trans (b3.mono B2.out.size))
    clear b3
    go_wp2_with fail
    (with_reducible refine (HSC.out _).mono ?_)
    rintro e w5 ⟨rfl, b5⟩
    have B5 := Lib.hid (show Below w1.heap.size w1 w5 from B3.out.trans (b5.mono B3.out.size))
    clear b5
    obtain ⟨y0, y1, f0, f1⟩ := row_scores (show RowAt w5 w.heap.size 47 #[.int .i64 0, .int .i64 0] from (B5.out.block _ z1).trans R1.out)
    have BW := Lib.hid (show Below w.heap.size w w5 from B1.out.trans (B5.out.mono (by omega)))
    have z5 : w.heap.size < w5.heap.size := by have := B5.out.size; omega
    go_wp2_with fail
    exact bodyPost_ret (v := .tuple #[.agg #[.int .i64 QP, .int .i64 QQ], .int .i64 0]) (by simp [results, Try.results27, go_sem, y0, y1]) rfl ⟨rfl, by (repeat (first | with_reducible exact Below.refl _ _ | with_reducible refine Bs ?_ | with_reducible refine Ba ?_ | with_reducible refine Bd ?_ | with_reducible refine Bn ?_ | with_reducible refine Bt BW.out ?_))⟩
  · obtain ⟨s1, s2⟩ := scP_no (show askE l x ≠ 0 by rw [hE]; exact hz)
    rw [s1, s2, hE]
    have j0 : (E != 0) = true := by simp [hz]
    clear hE hz s1 s2
    go_enter Try.func27, Try.ntmps27
    go_wp2_with fail
    (with_reducible refine (HA.out _ (HG.out.below (by (repeat (first | with_reducible exact Below.refl _ _ | with_reducible refine Bs ?_ | with_reducible refine Ba ?_ | with_reducible refine Bd ?_ | with_reducible refine Bn ?_)))) (HX.out.below (by (repeat (first | with_reducible exact Below.refl _ _ | with_reducible refine Bs ?_ | with_reducible refine Ba ?_ | with_reducible refine Bd ?_ | with_reducible refine Bn ?_))))).mono ?_)
    rintro e w1 ⟨rfl, b1⟩
    have B1 := Lib.hid (show Below w.heap.size w w1 from below_tr (by (repeat (first | with_reducible exact Below.refl _ _ | with_reducible refine Bs ?_ | with_reducible refine Ba ?_ | with_reducible refine Bd ?_ | with_reducible refine Bn ?_))) (b1.mono (by simp)))
    obtain ⟨y0, y1, f0, f1⟩ := row_scores (show RowAt w1 w.heap.size 47 #[.int .i64 0, .int .i64 0] from (b1.block _ (by simp)).trans (row_new rfl))
    have z1 : w.heap.size < w1.heap.size := by have := b1.size; simp at this; omega
    clear b1
    go_wp2_with fail
    exact bodyPost_ret (v := .tuple #[.agg #[.int .i64 0, .int .i64 0], .int .i64 E]) (by simp [results, Try.results27, go_sem, y0, y1]) rfl ⟨rfl, by (repeat (first | with_reducible exact Below.refl _ _ | with_reducible refine Bs ?_ | with_reducible refine Ba ?_ | with_reducible refine Bd ?_ | with_reducible refine Bn ?_ | with_reducible refine Bt B1.out ?_))⟩

end Go.Proofs.Ytdbonlpkmncggaa
