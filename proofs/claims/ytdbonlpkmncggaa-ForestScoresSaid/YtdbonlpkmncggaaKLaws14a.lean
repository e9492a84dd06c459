/-
  Laws14a: The walk of ForestTells.
-/
import Derived.Test.YtdbonlpkmncggaaKLaws14
import Derived.Test.YtdbonlpkmncggaaKSameU
namespace Go.Proofs.Ytdbonlpkmncggaa
open Go.RowKit

theorem muchG_no {l : List (TreeP × Int)} (h : muchG l = false) : l.length ≤ 30 ∧ ∀ p ∈ l, muchN p.1.nodes = false := by
  unfold muchG muchT at h
  rw [Bool.or_eq_false_iff, decide_eq_false_iff_not, Bool.or_eq_false_iff, List.any_eq_false] at h
  exact ⟨by omega, fun p hp => by simpa using h.2.2 p.1 (List.mem_map.2 ⟨p, hp, rfl⟩)⟩

theorem muchN_small {l : List NodeP} (h : muchN l = false) : l.length ≤ 1000 ∧ ∀ n ∈ l, n.coef.length ≤ 1000 := by
  unfold muchN at h
  rw [Bool.or_eq_false_iff, decide_eq_false_iff_not, List.any_eq_false] at h
  exact ⟨by omega, fun n hn => by have := h.2 n hn; simp at this; omega⟩

theorem muchG_small {l : List (TreeP × Int)} (h : muchG l = false) : smallF l := by
  obtain ⟨h1, h2⟩ := muchG_no h
  exact ⟨by omega, fun p hp => muchN_small (h2 p hp)⟩

theorem ArgGrowns.growns {w : World} {v : Value} {l : List (TreeP × Int)} (h : ArgGrowns w v l) (hm : muchG l = false) : GrownsR w v l := by
  obtain ⟨a, c, e, h1, h2, h⟩ := h
  obtain ⟨g1, g2⟩ := muchG_no hm
  refine ⟨a, c, e, h1, h2, by omega, fun i p hi => ?_⟩
  obtain ⟨b, o, nv, e, hb, c0, c1, c2, hw, hn⟩ := h i p hi
  exact ⟨b, o, nv, e, hb, c0, c1, c2, wf_ok hw, hn.nodes (g2 p (List.mem_of_getElem? hi))⟩

theorem trees_at {w : World} {ad : Option Addr} {n c : Nat} {l : List TreeP} (h : TreesR w (.slice ad n c) l) {i : Nat} {t : TreeP} (hi : l[i]? = some t) :
    ∃ b o na nc, ad = some ⟨b, o, none⟩ ∧ b < w.heap.size ∧ w.cell? ⟨b, o + i * 2, none⟩ = some (.int .i64 t.dim) ∧ w.cell? ⟨b, o + i * 2 + 1, none⟩ = some (.slice na t.nodes.length nc) ∧ NodesR w (.slice na t.nodes.length nc) t.nodes := by
  obtain ⟨a, cc, e, _, _, _, h⟩ := h
  injection e with e1 e2 e3
  subst e1
  obtain ⟨b, o, nv, g1, g2, g3, g4, g5⟩ := h i t hi
  have g5' := g5
  obtain ⟨na, nc, rfl, _⟩ := g5'
  exact ⟨b, o, na, nc, g1, g2, g3, g4, g5⟩

set_option maxRecDepth 100000 in
set_option maxHeartbeats 8000000 in
theorem forestTells_walk {w : World} (v : Value) (f : List (TreeP × Int)) (hv : ArgGrowns w v f) (v2 : Value) (g : List (TreeP × Int)) (hv2 : ArgGrowns w v2 g) (a : Int) (ha : (Lit.int .i64 a).wf = true) :
    Calls Try.prog 3 #[v, v2, .int .i64 a] w fun e w' => e = .returned (.bool true) ∧ Below w.heap.size w w' := by
  have HM := Lib.hid (fun W (hb : Below w.heap.size w W) => rmuch14_any v f W (hv.below hb))
  have HM2 := Lib.hid (fun W (hb : Below w.heap.size w W) => rmuch14_any v2 g W (hv2.below hb))
  have HTT := Lib.hid (fun (h : muchG f = false) => And.intro (hv.growns h) (muchG_small h))
  have HTT2 := Lib.hid (fun (h : muchG g = false) => hv2.growns h)
  obtain ⟨ad, cc, rfl, hd1, hd2, _⟩ := hv
  obtain ⟨ad2, cc2, rfl, hd3, hd4, _⟩ := hv2
  obtain ⟨n, hn⟩ : ∃ n, f.length = n := ⟨_, rfl⟩
  obtain ⟨m, hm⟩ : ∃ m, g.length = m := ⟨_, rfl⟩
  have HN := Lib.hid hn
  rw [hn] at HM HTT hd1 ⊢
  rw [hm] at HM2 HTT2 hd3 ⊢
  obtain ⟨M, hM⟩ : ∃ M, muchG f = M := ⟨_, rfl⟩
  obtain ⟨M2, hM2⟩ : ∃ M, muchG g = M := ⟨_, rfl⟩
  rw [hM] at HM HTT
  rw [hM2] at HM2 HTT2
  clear hM hM2 hn hm
  cases M with
  | true =>
    clear HTT HTT2 HM2
    go_enter Try.func3, Try.ntmps3
    go_wp2_with fail
    (with_reducible refine (HM.out _ (by (repeat (first | with_reducible exact Below.refl _ _ | with_reducible refine Bs ?_ | with_reducible refine Ba ?_ | with_reducible refine Bd ?_ | with_reducible refine Bn ?_)))).mono ?_)
    rintro e w1 ⟨rfl, b1⟩
    have B1 := Lib.hid b1
    clear b1
    go_wp2_with fail
    (with_reducible refine (lives14_any _).mono ?_)
    rintro e w2 ⟨rfl, b2⟩
    have B2 := Lib.hid (show Below w.heap.size w w2 from B1.out.trans (b2.mono B1.out.size))
    clear b2
    go_wp2_with fail
    go_ret
    exact ⟨rfl, B2.out⟩
  | false =>
    cases M2 with
    | true =>
      clear HTT HTT2
      go_enter Try.func3, Try.ntmps3
      go_wp2_with fail
      (with_reducible refine (HM.out _ (by (repeat (first | with_reducible exact Below.refl _ _ | with_reducible refine Bs ?_ | with_reducible refine Ba ?_ | with_reducible refine Bd ?_ | with_reducible refine Bn ?_)))).mono ?_)
      rintro e w1 ⟨rfl, b1⟩
      have B1 := Lib.hid b1
      clear b1
      go_wp2_with fail
      (with_reducible refine (HM2.out _ (by (repeat (first | with_reducible exact Below.refl _ _ | with_reducible refine Bs ?_ | with_reducible refine Ba ?_ | with_reducible refine Bd ?_ | with_reducible refine Bn ?_ | with_reducible refine Bt B1.out ?_)))).mono ?_)
      rintro e w2 ⟨rfl, b2⟩
      have B2 := Lib.hid (show Below w.heap.size w w2 from B1.out.trans (b2.mono B1.out.size))
      clear b2
      go_wp2_with fail
      (with_reducible refine (lives14_any _).mono ?_)
      rintro e w3 ⟨rfl, b3⟩
      have B3 := Lib.hid (show Below w.heap.size w w3 from B2.out.trans (b3.mono B2.out.size))
      clear b3
      go_wp2_with fail
      go_ret
      exact ⟨rfl, B3.out⟩
    | false =>
      have HG := Lib.hid (HTT.out rfl).1
      have HSM := Lib.hid (HTT.out rfl).2
      have HG2 := Lib.hid (HTT2.out rfl)
      have h1 := fun W (hb : Below w.heap.size w W) => oldest_any _ f W (HG.out.below hb)
      have h2 := fun W (hb : Below w.heap.size w W) => roldest14_any _ f W (HG.out.below hb)
      have h3 := fun W (hb : Below w.heap.size w W) => ages_any _ f a W (HG.out.below hb) (wf_ok ha)
      have h4 := fun W (hb : Below w.heap.size w W) => rages14_any _ f a W (HG.out.below hb) (wf_ok ha)
      have h5 := fun W (hb : Below w.heap.size w W) => ftrees_any _ f W (HG.out.below hb) HSM.out
      have h6 := fun W (hb : Below w.heap.size w W) => trees14_in _ f W (HG.out.below hb) HSM.out.1
      have h7 := fun W (hb : Below w.heap.size w W) => fis_any _ f W (HG.out.below hb)
      have h8 := fun W (hb : Below w.heap.size w W) => ris14_any _ f W (HG.out.below hb)
      have h9 := fun W (hb : Below w.heap.size w W) => fsame_any _ _ f g W (HG.out.below hb) (HG2.out.below hb)
      have h10 := fun W (hb : Below w.heap.size w W) => rsame14_any _ _ f g W (HG.out.below hb) (HG2.out.below hb)
      rw [HN.out] at h1 h2
      generalize ((oldK f n : Nat) : Int) = OK at *
      generalize decide (0 < n) = OB at *
      generalize ageE f a = AE at *
      generalize ageL f a = AL at *
      generalize isF f = FB at *
      generalize sameF f g = SF at *
      have HLN := Lib.hid (show (f.map (·.1)).length = n by rw [List.length_map, HN.out])
      obtain ⟨L, hL⟩ : ∃ L, f.map (·.1) = L := ⟨_, rfl⟩
      rw [hL] at h5 h6 HLN
      have H1 := Lib.hid h1; have H2 := Lib.hid h2; have H3 := Lib.hid h3; have H4 := Lib.hid h4; have H5 := Lib.hid h5; have H6 := Lib.hid h6; have H7 := Lib.hid h7; have H8 := Lib.hid h8; have H9 := Lib.hid h9; have H10 := Lib.hid h10
      have j1 : (FB != FB) = false := by simp
      have j2 : (OK != OK) = false := by simp
      have j3 : (OB != OB) = false := by simp
      have j4 : (AE != AE) = false := by simp
      have j5 : (SF != SF) = false := by simp
      have j6 : ((n : Int) != (n : Int)) = false := by simp
      have hnb : (n : Int) ≤ 1000 := by have := HSM.out.1; rw [HN.out] at this; omega
      clear h1 h2 h3 h4 h5 h6 h7 h8 h9 h10 HTT HTT2 hL
      go_enter Try.func3, Try.ntmps3
      go_wp2_with fail
      (with_reducible refine (HM.out _ (by (repeat (first | with_reducible exact Below.refl _ _ | with_reducible refine Bs ?_ | with_reducible refine Ba ?_ | with_reducible refine Bd ?_ | with_reducible refine Bn ?_)))).mono ?_)
      rintro e w1 ⟨rfl, b1⟩
      have B1 := Lib.hid (show Below w.heap.size w w1 from b1)
      clear b1
      go_wp2_with fail
      (with_reducible refine (HM2.out _ (by (repeat (first | with_reducible exact Below.refl _ _ | with_reducible refine Bs ?_ | with_reducible refine Ba ?_ | with_reducible refine Bd ?_ | with_reducible refine Bn ?_ | with_reducible refine Bt B1.out ?_)))).mono ?_)
      rintro e w2 ⟨rfl, b2⟩
      have B2 := Lib.hid (show Below w.heap.size w w2 from B1.out.trans (b2.mono B1.out.size))
      clear b2
      go_wp2_with fail
      (with_reducible refine (H1.out _ (by (repeat (first | with_reducible exact Below.refl _ _ | with_reducible refine Bs ?_ | with_reducible refine Ba ?_ | with_reducible refine Bd ?_ | with_reducible refine Bn ?_ | with_reducible refine Bt B2.out ?_)))).mono ?_)
      rintro e w3 ⟨rfl, b3⟩
      have B3 := Lib.hid (show Below w.heap.size w w3 from B2.out.trans (b3.mono B2.out.size))
      clear b3
      go_wp2_with fail
      (with_reducible refine (H2.out _ (by (repeat (first | with_reducible exact Below.refl _ _ | with_reducible refine Bs ?_ | with_reducible refine Ba ?_ | with_reducible refine Bd ?_ | with_reducible refine Bn ?_ | with_reducible refine Bt B3.out ?_)))).mono ?_)
      rintro e w4 ⟨rfl, b4⟩
      have B4 := Lib.hid (show Below w.heap.size w w4 from B3.out.trans (b4.mono B3.out.size))
      clear b4
      go_wp2_with fail
      (with_reducible refine (H3.out _ (by (repeat (first | with_reducible exact Below.refl _ _ | with_reducible refine Bs ?_ | with_reducible refine Ba ?_ | with_reducible refine Bd ?_ | with_reducible refine Bn ?_ | with_reducible refine Bt B4.out ?_)))).mono ?_)
      rintro e w5 ⟨v5, rfl, i5, b5⟩
      have B5 := Lib.hid (show Below w.heap.size w w5 from B4.out.trans (b5.mono B4.out.size))
      have I5 := Lib.hid i5
      obtain ⟨a5, c5, rfl⟩ := i5.shape
      clear i5
      clear b5
      go_wp2_with fail
      (with_reducible refine (H4.out _ (by (repeat (first | with_reducible exact Below.refl _ _ | with_reducible refine Bs ?_ | with_reducible refine Ba ?_ | with_reducible refine Bd ?_ | with_reducible refine Bn ?_ | with_reducible refine Bt B5.out ?_)))).mono ?_)
      rintro e w6 ⟨v6, rfl, i6, b6⟩
      have B6 := Lib.hid (show Below w.heap.size w w6 from B5.out.trans (b6.mono B5.out.size))
      have I5 := Lib.hid (I5.out.below b6)
      have I6 := Lib.hid i6
      obtain ⟨a6, c6, rfl⟩ := i6.shape
      clear i6
      clear b6
      go_wp2_with fail
      (with_reducible refine (H5.out _ (by (repeat (first | with_reducible exact Below.refl _ _ | with_reducible refine Bs ?_ | with_reducible refine Ba ?_ | with_reducible refine Bd ?_ | with_reducible refine Bn ?_ | with_reducible refine Bt B6.out ?_)))).mono ?_)
      rintro e w7 ⟨v7, rfl, t7, b7⟩
      have B7 := Lib.hid (show Below w.heap.size w w7 from B6.out.trans (b7.mono B6.out.size))
      have I5 := Lib.hid (I5.out.below b7)
      have I6 := Lib.hid (I6.out.below b7)
      have T7 := Lib.hid t7
      obtain ⟨a7, c7, rfl, _⟩ := t7
      rw [HLN.out] at T7 ⊢
      clear b7
      go_wp2_with fail
      (with_reducible refine (H6.out _ (by (repeat (first | with_reducible exact Below.refl _ _ | with_reducible refine Bs ?_ | with_reducible refine Ba ?_ | with_reducible refine Bd ?_ | with_reducible refine Bn ?_ | with_reducible refine Bt B7.out ?_)))).mono ?_)
      rintro e w8 ⟨v8, rfl, t8, b8⟩
      have B8 := Lib.hid (show Below w.heap.size w w8 from B7.out.trans (b8.mono B7.out.size))
      have I5 := Lib.hid (I5.out.below b8)
      have I6 := Lib.hid (I6.out.below b8)
      have T7 := Lib.hid (T7.out.below b8)
      have T8 := Lib.hid t8
      obtain ⟨a8, c8, rfl, _⟩ := t8
      rw [HLN.out] at T8 ⊢
      clear b8
      go_wp2_with fail
      (with_reducible refine (H7.out _ (by (repeat (first | with_reducible exact Below.refl _ _ | with_reducible refine Bs ?_ | with_reducible refine Ba ?_ | with_reducible refine Bd ?_ | with_reducible refine Bn ?_ | with_reducible refine Bt B8.out ?_)))).mono ?_)
      rintro e w9 ⟨rfl, b9⟩
      have B9 := Lib.hid (show Below w.heap.size w w9 from B8.out.trans (b9.mono B8.out.size))
      have I5 := Lib.hid (I5.out.below b9)
      have I6 := Lib.hid (I6.out.below b9)
      have T7 := Lib.hid (T7.out.below b9)
      have T8 := Lib.hid (T8.out.below b9)
      clear b9
      go_wp2_with fail
      (with_reducible refine (H8.out _ (by (repeat (first | with_reducible exact Below.refl _ _ | with_reducible refine Bs ?_ | with_reducible refine Ba ?_ | with_reducible refine Bd ?_ | with_reducible refine Bn ?_ | with_reducible refine Bt B9.out ?_)))).mono ?_)
      rintro e w10 ⟨rfl, b10⟩
      have B10 := Lib.hid (show Below w.heap.size w w10 from B9.out.trans (b10.mono B9.out.size))
      have I5 := Lib.hid (I5.out.below b10)
      have I6 := Lib.hid (I6.out.below b10)
      have T7 := Lib.hid (T7.out.below b10)
      have T8 := Lib.hid (T8.out.below b10)
      clear b10
      go_wp2_with fail
      refine (same_self _ _ _ _ I5.out I6.out).mono ?_
      rintro e w11 ⟨rfl, d11, rfl⟩
      go_wp2_with fail
      (with_reducible refine (H9.out _ (by (repeat (first | with_reducible exact Below.refl _ _ | with_reducible refine Bs ?_ | with_reducible refine Ba ?_ | with_reducible refine Bd ?_ | with_reducible refine Bn ?_ | with_reducible refine Bt B10.out ?_)))).mono ?_)
      rintro e w12 ⟨rfl, b12⟩
      have BX12 := Lib.hid (show Below w10.heap.size w10 w12 from below_tr (by (repeat (first | with_reducible exact Below.refl _ _ | with_reducible refine Bs ?_ | with_reducible refine Ba ?_ | with_reducible refine Bd ?_ | with_reducible refine Bn ?_))) b12)
      have B12 := Lib.hid (show Below w.heap.size w w12 from B10.out.trans (BX12.out.mono B10.out.size))
      clear b12
      go_wp2_with fail
      (with_reducible refine (H10.out _ (by (repeat (first | with_reducible exact Below.refl _ _ | with_reducible refine Bs ?_ | with_reducible refine Ba ?_ | with_reducible refine Bd ?_ | with_reducible refine Bn ?_ | with_reducible refine Bt B12.out ?_)))).mono ?_)
      rintro e w13 ⟨rfl, b13⟩
      have BX13 := Lib.hid (show Below w10.heap.size w10 w13 from BX12.out.trans (b13.mono BX12.out.size))
      have B13 := Lib.hid (show Below w.heap.size w w13 from B12.out.trans (b13.mono B12.out.size))
      have T7 := Lib.hid (T7.out.below BX13.out)
      have T8 := Lib.hid (T8.out.below BX13.out)
      clear b13
      go_wp2_with fail
      go_loopw [17] (fun idx wr => ∃ k : Nat, idx = .int .i64 k ∧ k ≤ n ∧ Below w13.heap.size w13 wr) (fun idx _ => n - (intOf idx).toNat)
      case atStart => exact ⟨0, rfl, by omega, Below.refl _ _⟩
      case round =>
        obtain ⟨k, rfl, hk, hbr⟩ := hrel
        have BR := Lib.hid hbr
        have hz := hbr.size
        have BRW := Lib.hid (show Below w.heap.size w wr from B13.out.trans (hbr.mono B13.out.size))
        by_cases hlt : k < n
        · obtain ⟨t, ht⟩ := getElem?_ex (l := L) (k := k) (by rw [HLN.out]; exact hlt)
          obtain ⟨b, o, na, nc, rfl, hb, c0, c1, hnt⟩ := trees_at (T7.out.below hbr) ht
          obtain ⟨b2, o2, na2, nc2, rfl, hb2, d0, d1, hnt2⟩ := trees_at (T8.out.below hbr) ht
          have HRS := Lib.hid (fun W (hW : Below wr.heap.size wr W) => r10same_any _ _ t t W (show TreeR W (.agg #[.int .i64 t.dim, .slice na t.nodes.length nc]) t from ⟨_, rfl, hnt.below hW⟩) (show TreeR W (.agg #[.int .i64 t.dim, .slice na2 t.nodes.length nc2]) t from ⟨_, rfl, hnt2.below hW⟩))
          rw [sameT_eq.2 rfl] at HRS
          have i1 : (0 : Int) ≤ (k : Int) := by omega
          have i2 : (k : Int) < (n : Int) := by omega
          have hby : b ≠ wr.heap.size := by omega
          have hby2 : b2 ≠ wr.heap.size := by omega
          clear hnt hnt2 ht hbr
          generalize t.nodes.length = tn at *
          generalize t.dim = d at *
          go_upto_region 13 with fail
          refine wp_region_held_drew (S := fun w' => w'.cell? ⟨b, o + k * 2, none⟩ = some (.int .i64 d) ∧ w'.cell? ⟨b, o + k * 2 + 1, none⟩ = some (.slice na tn nc) ∧ w'.cell? ⟨b2, o2 + k * 2, none⟩ = some (.int .i64 d) ∧ w'.cell? ⟨b2, o2 + k * 2 + 1, none⟩ = some (.slice na2 tn nc2)) (by kernel_rfl) ?_ (fun hHeld => ?_); (focus (first | with_reducible exact True.intro | ((try dsimp only); and_intros <;> first | (go_simp; done) | (go_keep; done)))); (refine lexTk 0 (v := ?_) rfl hHeld ?_ (by kernel_rfl) (fun _ _ _ h => h) ?_ ?_; rotate_left 2; (focus rfl); (focus (intro w hSw; (try dsimp only at hSw); first | (go_simp; done) | (go_simp; with_reducible rfl)))); (try simp only [Act.put, List.setIfInBounds_toArray, List.set_cons_zero, List.set_cons_succ]); (refine lexTk 1 (v := ?_) rfl hHeld ?_ (by kernel_rfl) (fun _ _ _ h => h) ?_ ?_; rotate_left 2; (focus rfl); (focus (intro w hSw; (try dsimp only at hSw); first | (go_simp; done) | (go_simp; with_reducible rfl)))); (try simp only [Act.put, List.setIfInBounds_toArray, List.set_cons_zero, List.set_cons_succ]); (refine lexTk 2 (v := ?_) rfl hHeld ?_ (by kernel_rfl) (fun _ _ _ h => h) ?_ ?_; rotate_left 2; (focus rfl); (focus (intro w hSw; (try dsimp only at hSw); first | (go_simp; done) | (go_simp; with_reducible rfl)))); (try simp only [Act.put, List.setIfInBounds_toArray, List.set_cons_zero, List.set_cons_succ]); (refine lexTk 3 (v := ?_) rfl hHeld ?_ (by kernel_rfl) (fun _ _ _ h => h) ?_ ?_; rotate_left 2; (focus rfl); (focus (intro w hSw; (try dsimp only at hSw); first | (go_simp; done) | (go_simp; with_reducible rfl)))); (try simp only [Act.put, List.setIfInBounds_toArray, List.set_cons_zero, List.set_cons_succ]); (refine lexTk 4 (v := ?_) rfl hHeld ?_ (by kernel_rfl) (fun _ _ _ h => h) ?_ ?_; rotate_left 2; (focus rfl); (focus (intro w hSw; (try dsimp only at hSw); first | (go_simp; done) | (go_simp; with_reducible rfl)))); (try simp only [Act.put, List.setIfInBounds_toArray, List.set_cons_zero, List.set_cons_succ]); (refine lexTk 5 (v := ?_) rfl hHeld ?_ (by kernel_rfl) (fun _ _ _ h => h) ?_ ?_; rotate_left 2; (focus rfl); (focus (intro w hSw; (try dsimp only at hSw); first | (go_simp; done) | (go_simp; with_reducible rfl)))); (try simp only [Act.put, List.setIfInBounds_toArray, List.set_cons_zero, List.set_cons_succ]); (refine lexTk 6 (v := ?_) rfl hHeld ?_ (by kernel_rfl) (fun _ _ _ h => h) ?_ ?_; rotate_left 2; (focus rfl); (focus (intro w hSw; (try dsimp only at hSw); first | (go_simp; done) | (go_simp; with_reducible rfl)))); (try simp only [Act.put, List.setIfInBounds_toArray, List.set_cons_zero, List.set_cons_succ]); (refine lexTk 7 (v := ?_) rfl hHeld ?_ (by kernel_rfl) (fun _ _ _ h => h) ?_ ?_; rotate_left 2; (focus rfl); (focus (intro w hSw; (try dsimp only at hSw); first | (go_simp; done) | (go_simp; with_reducible rfl)))); (try simp only [Act.put, List.setIfInBounds_toArray, List.set_cons_zero, List.set_cons_succ]); refine lexHv 8 rfl ?_ (by kernel_rfl); (intro K hK); (go_simp; (go_at_call 22); ((with_reducible refine (HRS.out _ (by (repeat (first | with_reducible exact Below.refl _ _ | with_reducible refine Bs ?_ | with_reducible refine Ba ?_ | with_reducible refine Bd ?_ | with_reducible refine Bn ?_)))).mono ?_)); (rintro e w14 ⟨rfl, b14⟩); (have B14 := Lib.hid (show Below wr.heap.size wr w14 from below_tr (by (repeat (first | with_reducible exact Below.refl _ _ | with_reducible refine Bs ?_ | with_reducible refine Ba ?_ | with_reducible refine Bd ?_ | with_reducible refine Bn ?_))) (b14.mono (by first | omega | (simp; done) | (simp; omega))))); (have y0 : w14.cell? ⟨b, o + k * 2, none⟩ = some (.int .i64 d) := (b14.cell (by first | omega | (simp; done) | (simp; omega))).trans (by go_simp)); (have y1 : w14.cell? ⟨b, o + k * 2 + 1, none⟩ = some (.slice na tn nc) := (b14.cell (by first | omega | (simp; done) | (simp; omega))).trans (by go_simp)); (have y2 : w14.cell? ⟨b2, o2 + k * 2, none⟩ = some (.int .i64 d) := (b14.cell (by first | omega | (simp; done) | (simp; omega))).trans (by go_simp)); (have y3 : w14.cell? ⟨b2, o2 + k * 2 + 1, none⟩ = some (.slice na2 tn nc2) := (b14.cell (by first | omega | (simp; done) | (simp; omega))).trans (by go_simp)); (clear b14); (try go_wp2_with fail)); refine hK.out _ _ ?_ ?_; (focus (first | with_reducible exact True.intro | ((try dsimp only); and_intros <;> first | (go_simp; done) | (go_keep; done)))); (clear hHeld hK K); (intro hHeld); (try simp only [Act.put, List.setIfInBounds_toArray, List.set_cons_zero, List.set_cons_succ]); (refine lexTk 9 (v := ?_) rfl hHeld ?_ (by kernel_rfl) (fun _ _ _ h => h) ?_ ?_; rotate_left 2; (focus rfl); (focus (intro w hSw; (try dsimp only at hSw); first | (go_simp; done) | (go_simp; with_reducible rfl)))); (try simp only [Act.put, List.setIfInBounds_toArray, List.set_cons_zero, List.set_cons_succ]); refine wpAnyH_done (by kernel_rfl) ?_ _
          all_goals
            go_wp2_with fail
            go_roundw
            case rel => exact ⟨k + 1, by go_num, by omega, BR.out.trans (B14.out.mono hz)⟩
            case measure => simp [intOf] <;> omega
        · obtain rfl : k = n := by omega
          clear hbr
          go_wp2_with fail
          (with_reducible refine (lives14_any _).mono ?_)
          rintro e w15 ⟨rfl, b15⟩
          have B15 := Lib.hid (show Below w.heap.size w w15 from BRW.out.trans (b15.mono BRW.out.size))
          clear b15
          go_wp2_with fail
          go_ret
          exact ⟨rfl, B15.out⟩
end Go.Proofs.Ytdbonlpkmncggaa
