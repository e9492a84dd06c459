/-
  Laws15a: The walk of FlatPacks.
-/
import Derived.Test.YtjmjnkilgoelbaaKLaws15
import Derived.Test.YtjmjnkilgoelbaaKFlatY
import Derived.Test.YtjmjnkilgoelbaaJ2b
namespace Go.Proofs.Ytjmjnkilgoelbaa
open Go.RowKit

theorem ofR_C (l : List TreeP) : ofR l = ofC l := rfl

set_option maxRecDepth 100000 in
set_option maxHeartbeats 8000000 in
theorem flatPacks_walk {w : World} (v : Value) (l : List TreeP) (hv : ArgTrees w v l) (a : Int) (ha : (Lit.int .i64 a).wf = true) :
    Calls Try.prog 11 #[v, .int .i64 a] w fun e w' => e = .returned (.bool true) ∧ Below w.heap.size w w' := by
  have HM := Lib.hid (fun W (hb : Below w.heap.size w W) => rmuch12_any v l W (hv.below hb))
  have HTT := Lib.hid (fun (h : muchT l = false) => hv.trees h)
  obtain ⟨ad, cc, rfl, hd1, hd2, _⟩ := hv
  obtain ⟨M, hM⟩ : ∃ M, muchT l = M := ⟨_, rfl⟩
  rw [hM] at HM HTT
  clear hM
  cases M with
  | true =>
    clear HTT
    obtain ⟨n, hn⟩ : ∃ n, l.length = n := ⟨_, rfl⟩
    rw [hn] at HM hd1 ⊢
    clear hn
    go_enter Try.func11, Try.ntmps11
    go_wp2_with fail
    (with_reducible refine (HM.out _ (by (repeat (first | with_reducible exact Below.refl _ _ | with_reducible refine Bs ?_ | with_reducible refine Ba ?_ | with_reducible refine Bd ?_ | with_reducible refine Bn ?_)))).mono ?_)
    rintro e w1 ⟨rfl, b1⟩
    have B1 := Lib.hid b1
    clear b1
    go_wp2_with fail
    (with_reducible refine (lives15_any _).mono ?_)
    rintro e w2 ⟨rfl, b2⟩
    have B2 := Lib.hid b2
    have hz1 := B1.out.size
    clear b2
    go_wp2_with fail
    go_ret
    exact ⟨rfl, B1.out.trans (B2.out.mono hz1)⟩
  | false =>
    have HT := Lib.hid (HTT.out rfl)
    have h1 := fun W (hb : Below w.heap.size w W) => pack_of _ l W (HT.out.below hb)
    have h2 := fun W (hb : Below w.heap.size w W) => r15of_any _ l W (HT.out.below hb)
    rw [ofR_C] at h2
    obtain ⟨C, hC⟩ : ∃ C, ofC l = C := ⟨_, rfl⟩
    rw [hC] at h1 h2
    have H1 := Lib.hid h1
    have H2 := Lib.hid h2
    have j0 : (C != C) = false := by simp
    obtain ⟨n, hn⟩ : ∃ n, l.length = n := ⟨_, rfl⟩
    have HN := Lib.hid hn
    rw [hn] at HM H1 H2 HT hd1 ⊢
    clear h1 h2 hC HTT hn
    by_cases hC0 : C = 0
    · subst hC0
      clear j0
      by_cases hpl : a < 0 ∨ (n : Int) ≤ a
      · go_enter Try.func11, Try.ntmps11
        go_wp2_with fail
        (with_reducible refine (HM.out _ (by (repeat (first | with_reducible exact Below.refl _ _ | with_reducible refine Bs ?_ | with_reducible refine Ba ?_ | with_reducible refine Bd ?_ | with_reducible refine Bn ?_)))).mono ?_)
        rintro e w1 ⟨rfl, b1⟩
        have B1 := Lib.hid b1
        have hz1 := b1.size
        clear b1
        go_wp2_with fail
        (with_reducible refine (H1.out _ (by (repeat (first | with_reducible exact Below.refl _ _ | with_reducible refine Bs ?_ | with_reducible refine Ba ?_ | with_reducible refine Bd ?_ | with_reducible refine Bn ?_ | with_reducible refine Bt B1.out ?_)))).mono ?_)
        rintro e w2 ⟨pv, rfl, b2, _, hok⟩
        obtain ⟨P, vs, nv, rfl, hp, hf⟩ := hok (by first | trivial | rfl)
        have B2 := Lib.hid (show Below w.heap.size w w2 from B1.out.trans (b2.mono hz1))
        have HP := Lib.hid hp
        have hz2 := B2.out.size
        clear b2 hok hp hf
        have HL := Lib.hid (fun W (hW : Below w2.heap.size w2 W) => HN.out ▸ flen_any (HP.out.below hW))
        have HCE := Lib.hid (fun W (hW : Below w2.heap.size w2 W) => cells_any W (HP.out.below hW))
        have HRC := Lib.hid (fun W (hW : Below w2.heap.size w2 W) => rcells_any _ l W (HT.out.below (B2.out.trans (hW.mono hz2))) HP.out.ok (by rw [HN.out]; exact HN.out ▸ HP.out.many))
        go_wp2_with fail
        (with_reducible refine (H2.out _ (by (repeat (first | with_reducible exact Below.refl _ _ | with_reducible refine Bs ?_ | with_reducible refine Ba ?_ | with_reducible refine Bd ?_ | with_reducible refine Bn ?_ | with_reducible refine Bt B2.out ?_)))).mono ?_)
        rintro e w3 ⟨rfl, b3⟩
        have B3 := Lib.hid (show Below w2.heap.size w2 w3 from b3)
        clear b3
        have j2 : (false != false) = false := rfl
        go_wp2_with fail
        (with_reducible refine (HL.out _ (by (repeat (first | with_reducible exact Below.refl _ _ | with_reducible refine Bs ?_ | with_reducible refine Ba ?_ | with_reducible refine Bd ?_ | with_reducible refine Bn ?_ | with_reducible refine Bt B3.out ?_)))).mono ?_)
        rintro e w4 ⟨rfl, rfl⟩
        have j3 : ((n : Int) != (n : Int)) = false := by simp
        go_wp2_with fail
        (with_reducible refine (HCE.out _ (by (repeat (first | with_reducible exact Below.refl _ _ | with_reducible refine Bs ?_ | with_reducible refine Ba ?_ | with_reducible refine Bd ?_ | with_reducible refine Bn ?_ | with_reducible refine Bt B3.out ?_)))).mono ?_)
        rintro e w5 ⟨u1, u2, u3, u4, u5, u6, u7, rfl, hc, b5⟩
        have B5 := Lib.hid (show Below w2.heap.size w2 w5 from B3.out.trans (b5.mono B3.out.size))
        have HCC := Lib.hid hc
        clear hc b5
        go_wp2_with fail
        (with_reducible refine (HRC.out _ (by (repeat (first | with_reducible exact Below.refl _ _ | with_reducible refine Bs ?_ | with_reducible refine Ba ?_ | with_reducible refine Bd ?_ | with_reducible refine Bn ?_ | with_reducible refine Bt B5.out ?_)))).mono ?_)
        rintro e w6 ⟨x1, x2, x3, x4, x5, x6, x7, rfl, hc, b6⟩
        have B6 := Lib.hid (show Below w2.heap.size w2 w6 from B5.out.trans (b6.mono B5.out.size))
        have HSA := Lib.hid (r15same_yes (dimL l) u1 u2 u3 u4 u5 u6 u7 x1 x2 x3 x4 x5 x6 x7 (flatL l) rfl w6 (fun j v r h1 h2 => (HCC.out j v r h1 h2).below b6) hc)
        clear hc b6
        go_wp2_with fail
        (with_reducible refine HSA.out.mono ?_)
        rintro e w7 ⟨rfl, b7⟩
        have B7 := Lib.hid (show Below w2.heap.size w2 w7 from B6.out.trans (b7.mono B6.out.size))
        have B7W := Lib.hid (show Below w.heap.size w w7 from B2.out.trans (B7.out.mono hz2))
        have hz7 := B7.out.size
        clear b7 HSA HCC
        go_wp2_with fail
        (with_reducible refine (ftree_out a _ (HP.out.below (by (repeat (first | with_reducible exact Below.refl _ _ | with_reducible refine Bs ?_ | with_reducible refine Ba ?_ | with_reducible refine Bd ?_ | with_reducible refine Bn ?_ | with_reducible refine Bt B7.out ?_)))) (by rw [HN.out]; exact hpl)).mono ?_)
        rintro e w8 ⟨rfl, b8⟩
        have B8 := Lib.hid (show Below w.heap.size w w8 from B7W.out.trans (b8.mono (by omega)))
        have hz8 := B8.out.size
        clear b8
        by_cases ha0 : a < 0
        · go_wp2_with fail
          (with_reducible refine (lives15_any _).mono ?_)
          rintro e w9 ⟨rfl, b9⟩
          have B9 := Lib.hid (show Below w.heap.size w w9 from below_tr (show Below w.heap.size w _ from by (repeat (first | with_reducible exact Below.refl _ _ | with_reducible refine Bs ?_ | with_reducible refine Ba ?_ | with_reducible refine Bd ?_ | with_reducible refine Bn ?_ | with_reducible refine Bt B8.out ?_))) (b9.mono (by first | omega | (simp; done) | (simp; omega))))
          clear b9
          go_wp2_with fail
          go_ret
          exact ⟨by first | rfl | trivial, B9.out⟩
        · have ha1 : (n : Int) ≤ a := by omega
          go_wp2_with fail
          (with_reducible refine (lives15_any _).mono ?_)
          rintro e w9 ⟨rfl, b9⟩
          have B9 := Lib.hid (show Below w.heap.size w w9 from below_tr (show Below w.heap.size w _ from by (repeat (first | with_reducible exact Below.refl _ _ | with_reducible refine Bs ?_ | with_reducible refine Ba ?_ | with_reducible refine Bd ?_ | with_reducible refine Bn ?_ | with_reducible refine Bt B8.out ?_))) (b9.mono (by first | omega | (simp; done) | (simp; omega))))
          clear b9
          go_wp2_with fail
          go_ret
          exact ⟨by first | rfl | trivial, B9.out⟩
      · obtain ⟨j, rfl⟩ : ∃ j : Nat, a = (j : Int) := ⟨a.toNat, by omega⟩
        have hjn : j < n := by omega
        obtain ⟨t, ht⟩ := getElem?_ex (l := l) (k := j) (by rw [HN.out]; exact hjn)
        have HJ := Lib.hid ht
        clear ht
        go_enter Try.func11, Try.ntmps11
        go_wp2_with fail
        (with_reducible refine (HM.out _ (by (repeat (first | with_reducible exact Below.refl _ _ | with_reducible refine Bs ?_ | with_reducible refine Ba ?_ | with_reducible refine Bd ?_ | with_reducible refine Bn ?_)))).mono ?_)
        rintro e w1 ⟨rfl, b1⟩
        have B1 := Lib.hid b1
        have hz1 := b1.size
        clear b1
        go_wp2_with fail
        (with_reducible refine (H1.out _ (by (repeat (first | with_reducible exact Below.refl _ _ | with_reducible refine Bs ?_ | with_reducible refine Ba ?_ | with_reducible refine Bd ?_ | with_reducible refine Bn ?_ | with_reducible refine Bt B1.out ?_)))).mono ?_)
        rintro e w2 ⟨pv, rfl, b2, _, hok⟩
        obtain ⟨P, vs, nv, rfl, hp, hf⟩ := hok (by first | trivial | rfl)
        have B2 := Lib.hid (show Below w.heap.size w w2 from B1.out.trans (b2.mono hz1))
        have HP := Lib.hid hp
        have hz2 := B2.out.size
        clear b2 hok hp hf
        have HL := Lib.hid (fun W (hW : Below w2.heap.size w2 W) => HN.out ▸ flen_any (HP.out.below hW))
        have HCE := Lib.hid (fun W (hW : Below w2.heap.size w2 W) => cells_any W (HP.out.below hW))
        have HRC := Lib.hid (fun W (hW : Below w2.heap.size w2 W) => rcells_any _ l W (HT.out.below (B2.out.trans (hW.mono hz2))) HP.out.ok (by rw [HN.out]; exact HN.out ▸ HP.out.many))
        go_wp2_with fail
        (with_reducible refine (H2.out _ (by (repeat (first | with_reducible exact Below.refl _ _ | with_reducible refine Bs ?_ | with_reducible refine Ba ?_ | with_reducible refine Bd ?_ | with_reducible refine Bn ?_ | with_reducible refine Bt B2.out ?_)))).mono ?_)
        rintro e w3 ⟨rfl, b3⟩
        have B3 := Lib.hid (show Below w2.heap.size w2 w3 from b3)
        clear b3
        have j2 : (false != false) = false := rfl
        go_wp2_with fail
        (with_reducible refine (HL.out _ (by (repeat (first | with_reducible exact Below.refl _ _ | with_reducible refine Bs ?_ | with_reducible refine Ba ?_ | with_reducible refine Bd ?_ | with_reducible refine Bn ?_ | with_reducible refine Bt B3.out ?_)))).mono ?_)
        rintro e w4 ⟨rfl, rfl⟩
        have j3 : ((n : Int) != (n : Int)) = false := by simp
        go_wp2_with fail
        (with_reducible refine (HCE.out _ (by (repeat (first | with_reducible exact Below.refl _ _ | with_reducible refine Bs ?_ | with_reducible refine Ba ?_ | with_reducible refine Bd ?_ | with_reducible refine Bn ?_ | with_reducible refine Bt B3.out ?_)))).mono ?_)
        rintro e w5 ⟨u1, u2, u3, u4, u5, u6, u7, rfl, hc, b5⟩
        have B5 := Lib.hid (show Below w2.heap.size w2 w5 from B3.out.trans (b5.mono B3.out.size))
        have HCC := Lib.hid hc
        clear hc b5
        go_wp2_with fail
        (with_reducible refine (HRC.out _ (by (repeat (first | with_reducible exact Below.refl _ _ | with_reducible refine Bs ?_ | with_reducible refine Ba ?_ | with_reducible refine Bd ?_ | with_reducible refine Bn ?_ | with_reducible refine Bt B5.out ?_)))).mono ?_)
        rintro e w6 ⟨x1, x2, x3, x4, x5, x6, x7, rfl, hc, b6⟩
        have B6 := Lib.hid (show Below w2.heap.size w2 w6 from B5.out.trans (b6.mono B5.out.size))
        have HSA := Lib.hid (r15same_yes (dimL l) u1 u2 u3 u4 u5 u6 u7 x1 x2 x3 x4 x5 x6 x7 (flatL l) rfl w6 (fun j v r h1 h2 => (HCC.out j v r h1 h2).below b6) hc)
        clear hc b6
        go_wp2_with fail
        (with_reducible refine HSA.out.mono ?_)
        rintro e w7 ⟨rfl, b7⟩
        have B7 := Lib.hid (show Below w2.heap.size w2 w7 from B6.out.trans (b7.mono B6.out.size))
        have B7W := Lib.hid (show Below w.heap.size w w7 from B2.out.trans (B7.out.mono hz2))
        have hz7 := B7.out.size
        clear b7 HSA HCC
        go_wp2_with fail
        (with_reducible refine (ftree_in j t _ (HP.out.below (by (repeat (first | with_reducible exact Below.refl _ _ | with_reducible refine Bs ?_ | with_reducible refine Ba ?_ | with_reducible refine Bd ?_ | with_reducible refine Bn ?_ | with_reducible refine Bt B7.out ?_)))) HJ.out).mono ?_)
        rintro e w8 ⟨tv, rfl, htv, b8⟩
        obtain ⟨_, _, _, hcell⟩ : ∃ (x y : Nat) (z : True), ∀ (i : Nat) (t : TreeP), l[i]? = some t → ∃ b o nv, ad = some ⟨b, o, none⟩ ∧ b < w.heap.size ∧ w.cell? ⟨b, o + i * 2, none⟩ = some (.int .i64 t.dim) ∧ w.cell? ⟨b, o + i * 2 + 1, none⟩ = some nv ∧ NodesR w nv t.nodes := by
          obtain ⟨a', c', e, _, _, _, h⟩ := HT.out
          injection e with e1 _ _
          exact ⟨0, 0, trivial, by rw [e1]; exact h⟩
        obtain ⟨b, o, sv, rfl, hb, s0, s1, hsn⟩ := hcell j t HJ.out
        have B8 := Lib.hid (show Below w.heap.size w w8 from B7W.out.trans (b8.mono (by omega)))
        have hz8 := B8.out.size
        have hdt := (HP.out.ok t (List.mem_of_getElem? HJ.out)).2
        rw [← hdt] at *
        have hst := fun W (hW : Below w8.heap.size w8 W) => r10same_any (.agg #[.int .i64 t.dim, tv]) (.agg #[.int .i64 t.dim, sv]) t t W ⟨_, rfl, htv.below hW⟩ ⟨_, rfl, hsn.below (B8.out.trans (hW.mono hz8))⟩
        rw [sameT_self] at hst
        obtain ⟨ta, tc, rfl, _⟩ := htv
        obtain ⟨sa, sc, rfl, _⟩ := hsn
        obtain ⟨tm, htm⟩ : ∃ m, t.nodes.length = m := ⟨_, rfl⟩
        obtain ⟨td, htd⟩ : ∃ m, t.dim = m := ⟨_, rfl⟩
        rw [htm] at hst s1 ⊢
        rw [htd] at hst s0 ⊢
        have HSM := Lib.hid hst
        have q0 : w8.cell? ⟨b, o + j * 2, none⟩ = some (.int .i64 td) := (B8.out.cell (p := ⟨b, o + j * 2, none⟩) hb).trans s0
        have q1 : w8.cell? ⟨b, o + j * 2 + 1, none⟩ = some (.slice sa tm sc) := (B8.out.cell (p := ⟨b, o + j * 2 + 1, none⟩) hb).trans s1
        have hb8 : b < w8.heap.size := by omega
        have hn1 : b ≠ w8.heap.size := by omega
        have k0 : ¬ (j : Int) < 0 := by omega
        have k1 : ¬ (n : Int) ≤ (j : Int) := by omega
        have k2 : ¬ n ≤ j := by omega
        have k3 : (0 : Int) ≤ j := by omega
        have k4 : (j : Int) < n := by omega
        clear b8 hst hcell hdt htm htd s0 s1
        go_upto_region 13 with fail
        refine wp_region_held_drew (S := fun w' => w'.cell? ⟨w8.heap.size, 0, none⟩ = some (.int .i64 td) ∧ w'.cell? ⟨w8.heap.size, 1, none⟩ = some (.slice ta tm tc) ∧ w'.cell? ⟨b, o + j * 2, none⟩ = some (.int .i64 td) ∧ w'.cell? ⟨b, o + j * 2 + 1, none⟩ = some (.slice sa tm sc)) (by kernel_rfl) ?_ (fun hHeld => ?_); (focus (first | with_reducible exact True.intro | ((try dsimp only); and_intros <;> first | (go_simp; done) | (go_keep; done)))); (refine lexTk 0 (v := ?_) rfl hHeld ?_ (by kernel_rfl) (fun _ _ _ h => h) ?_ ?_; rotate_left 2; (focus rfl); (focus (intro w hSw; (try dsimp only at hSw); first | (go_simp; done) | (go_simp; with_reducible rfl)))); (try simp only [Act.put, List.setIfInBounds_toArray, List.set_cons_zero, List.set_cons_succ]); (refine lexTk 1 (v := ?_) rfl hHeld ?_ (by kernel_rfl) (fun _ _ _ h => h) ?_ ?_; rotate_left 2; (focus rfl); (focus (intro w hSw; (try dsimp only at hSw); first | (go_simp; done) | (go_simp; with_reducible rfl)))); (try simp only [Act.put, List.setIfInBounds_toArray, List.set_cons_zero, List.set_cons_succ]); (refine lexTk 2 (v := ?_) rfl hHeld ?_ (by kernel_rfl) (fun _ _ _ h => h) ?_ ?_; rotate_left 2; (focus rfl); (focus (intro w hSw; (try dsimp only at hSw); first | (go_simp; done) | (go_simp; with_reducible rfl)))); (try simp only [Act.put, List.setIfInBounds_toArray, List.set_cons_zero, List.set_cons_succ]); (first | (refine lexTk 3 (v := ?_) rfl hHeld ?_ (by kernel_rfl) (fun _ _ _ h => h) ?_ ?_; rotate_left 2; (focus rfl); (focus (intro w hSw; (try dsimp only at hSw); first | (go_simp; done) | (go_simp; with_reducible rfl)))) | refine lexSk 3 rfl hHeld ?_ (by kernel_rfl) (fun _ _ _ h => h) (by rfl)); (try simp only [Act.put, List.setIfInBounds_toArray, List.set_cons_zero, List.set_cons_succ]); (first | (refine lexTk 4 (v := ?_) rfl hHeld ?_ (by kernel_rfl) (fun _ _ _ h => h) ?_ ?_; rotate_left 2; (focus rfl); (focus (intro w hSw; (try dsimp only at hSw); first | (go_simp; done) | (go_simp; with_reducible rfl)))) | refine lexSk 4 rfl hHeld ?_ (by kernel_rfl) (fun _ _ _ h => h) (by rfl)); (try simp only [Act.put, List.setIfInBounds_toArray, List.set_cons_zero, List.set_cons_succ]); (first | (refine lexTk 5 (v := ?_) rfl hHeld ?_ (by kernel_rfl) (fun _ _ _ h => h) ?_ ?_; rotate_left 2; (focus rfl); (focus (intro w hSw; (try dsimp only at hSw); first | (go_simp; done) | (go_simp; with_reducible rfl)))) | refine lexSk 5 rfl hHeld ?_ (by kernel_rfl) (fun _ _ _ h => h) (by rfl)); (try simp only [Act.put, List.setIfInBounds_toArray, List.set_cons_zero, List.set_cons_succ]); (first | (refine lexTk 6 (v := ?_) rfl hHeld ?_ (by kernel_rfl) (fun _ _ _ h => h) ?_ ?_; rotate_left 2; (focus rfl); (focus (intro w hSw; (try dsimp only at hSw); first | (go_simp; done) | (go_simp; with_reducible rfl)))) | refine lexSk 6 rfl hHeld ?_ (by kernel_rfl) (fun _ _ _ h => h) (by rfl)); (try simp only [Act.put, List.setIfInBounds_toArray, List.set_cons_zero, List.set_cons_succ]); (first | (refine lexTk 7 (v := ?_) rfl hHeld ?_ (by kernel_rfl) (fun _ _ _ h => h) ?_ ?_; rotate_left 2; (focus rfl); (focus (intro w hSw; (try dsimp only at hSw); first | (go_simp; done) | (go_simp; with_reducible rfl)))) | refine lexSk 7 rfl hHeld ?_ (by kernel_rfl) (fun _ _ _ h => h) (by rfl)); (try simp only [Act.put, List.setIfInBounds_toArray, List.set_cons_zero, List.set_cons_succ]); refine lexHv 8 rfl ?_ (by kernel_rfl); (intro K hK); (go_simp; (go_at_call 67); ((with_reducible refine (HSM.out _ (by (repeat (first | with_reducible exact Below.refl _ _ | with_reducible refine Bs ?_ | with_reducible refine Ba ?_ | with_reducible refine Bd ?_ | with_reducible refine Bn ?_)))).mono ?_)); (rintro e w9 ⟨rfl, b9⟩); (have y0 : w9.cell? ⟨w8.heap.size, 0, none⟩ = some (.int .i64 td) := (b9.cell (p := ⟨w8.heap.size, 0, none⟩) (by first | omega | (simp; done) | (simp; omega))).trans (by go_simp)); (have y1 : w9.cell? ⟨w8.heap.size, 1, none⟩ = some (.slice ta tm tc) := (b9.cell (p := ⟨w8.heap.size, 1, none⟩) (by first | omega | (simp; done) | (simp; omega))).trans (by go_simp)); (have y2 : w9.cell? ⟨b, o + j * 2, none⟩ = some (.int .i64 td) := (b9.cell (p := ⟨b, o + j * 2, none⟩) (by first | omega | (simp; done) | (simp; omega))).trans (by go_simp)); (have y3 : w9.cell? ⟨b, o + j * 2 + 1, none⟩ = some (.slice sa tm sc) := (b9.cell (p := ⟨b, o + j * 2 + 1, none⟩) (by first | omega | (simp; done) | (simp; omega))).trans (by go_simp)); (have l9 := World.block_lt_of_cell? _ _ y0); (have m9 := World.block_lt_of_cell? _ _ y2); (dsimp only at l9 m9); (have B9 := Lib.hid (show Below w.heap.size w w9 from below_tr (show Below w.heap.size w _ from by (repeat (first | with_reducible exact Below.refl _ _ | with_reducible refine Bs ?_ | with_reducible refine Ba ?_ | with_reducible refine Bd ?_ | with_reducible refine Bn ?_ | with_reducible refine Bt B8.out ?_))) (b9.mono (by first | omega | (simp; done) | (simp; omega))))); (clear b9); (try go_wp2_with fail)); refine hK.out _ _ ?_ ?_; (focus (first | with_reducible exact True.intro | ((try dsimp only); and_intros <;> first | (go_simp; done) | (go_keep; done)))); (clear hHeld hK K); (intro hHeld); (try simp only [Act.put, List.setIfInBounds_toArray, List.set_cons_zero, List.set_cons_succ]); (refine lexTk 9 (v := ?_) rfl hHeld ?_ (by kernel_rfl) (fun _ _ _ h => h) ?_ ?_; rotate_left 2; (focus rfl); (focus (intro w hSw; (try dsimp only at hSw); first | (go_simp; done) | (go_simp; with_reducible rfl)))); (try simp only [Act.put, List.setIfInBounds_toArray, List.set_cons_zero, List.set_cons_succ]); (refine lexTk 10 (v := ?_) rfl hHeld ?_ (by kernel_rfl) (fun _ _ _ h => h) ?_ ?_; rotate_left 2; (focus rfl); (focus (intro w hSw; (try dsimp only at hSw); first | (go_simp; done) | (go_simp; with_reducible rfl)))); (try simp only [Act.put, List.setIfInBounds_toArray, List.set_cons_zero, List.set_cons_succ]); refine lexHv 11 rfl ?_ (by kernel_rfl); (intro K hK); (go_simp; (go_at_call 59); ((with_reducible refine (lives15_any _).mono ?_)); (rintro e w10 ⟨rfl, b10⟩); (have z0 : w10.cell? ⟨w8.heap.size, 0, none⟩ = some (.int .i64 td) := (b10.cell (p := ⟨w8.heap.size, 0, none⟩) (by first | omega | (simp; done) | (simp; omega))).trans (by go_simp)); (have z1 : w10.cell? ⟨w8.heap.size, 1, none⟩ = some (.slice ta tm tc) := (b10.cell (p := ⟨w8.heap.size, 1, none⟩) (by first | omega | (simp; done) | (simp; omega))).trans (by go_simp)); (have z2 : w10.cell? ⟨b, o + j * 2, none⟩ = some (.int .i64 td) := (b10.cell (p := ⟨b, o + j * 2, none⟩) (by first | omega | (simp; done) | (simp; omega))).trans (by go_simp)); (have z3 : w10.cell? ⟨b, o + j * 2 + 1, none⟩ = some (.slice sa tm sc) := (b10.cell (p := ⟨b, o + j * 2 + 1, none⟩) (by first | omega | (simp; done) | (simp; omega))).trans (by go_simp)); (have B10 := Lib.hid (show Below w.heap.size w w10 from below_tr (show Below w.heap.size w _ from by (repeat (first | with_reducible exact Below.refl _ _ | with_reducible refine Bs ?_ | with_reducible refine Ba ?_ | with_reducible refine Bd ?_ | with_reducible refine Bn ?_ | with_reducible refine Bt B9.out ?_))) (b10.mono (by first | omega | (simp; done) | (simp; omega))))); (clear b10); (try go_wp2_with fail)); refine hK.out _ _ ?_ ?_; (focus (first | with_reducible exact True.intro | ((try dsimp only); and_intros <;> first | (go_simp; done) | (go_keep; done)))); (clear hHeld hK K); (intro hHeld); (try simp only [Act.put, List.setIfInBounds_toArray, List.set_cons_zero, List.set_cons_succ]); (refine lexTk 12 (v := ?_) rfl hHeld ?_ (by kernel_rfl) (fun _ _ _ h => h) ?_ ?_; rotate_left 2; (focus rfl); (focus (intro w hSw; (try dsimp only at hSw); first | (go_simp; done) | (go_simp; with_reducible rfl)))); (try simp only [Act.put, List.setIfInBounds_toArray, List.set_cons_zero, List.set_cons_succ]); (refine lexTk 13 (v := ?_) rfl hHeld ?_ (by kernel_rfl) (fun _ _ _ h => h) ?_ ?_; rotate_left 2; (focus rfl); (focus (intro w hSw; (try dsimp only at hSw); first | (go_simp; done) | (go_simp; with_reducible rfl)))); (try simp only [Act.put, List.setIfInBounds_toArray, List.set_cons_zero, List.set_cons_succ]); refine wpAnyH_done (by kernel_rfl) ?_ _
        go_wp2_with fail
        go_ret
        exact ⟨by first | rfl | trivial, by (repeat (first | with_reducible exact Below.refl _ _ | with_reducible refine Bs ?_ | with_reducible refine Ba ?_ | with_reducible refine Bd ?_ | with_reducible refine Bn ?_ | with_reducible refine Bt B10.out ?_))⟩
    · have j1 : (C != 0) = true := by simp [hC0]
      have HC0 := Lib.hid hC0
      clear hC0
      go_enter Try.func11, Try.ntmps11
      go_wp2_with fail
      (with_reducible refine (HM.out _ (by (repeat (first | with_reducible exact Below.refl _ _ | with_reducible refine Bs ?_ | with_reducible refine Ba ?_ | with_reducible refine Bd ?_ | with_reducible refine Bn ?_)))).mono ?_)
      rintro e w1 ⟨rfl, b1⟩
      have B1 := Lib.hid b1
      have hz1 := b1.size
      clear b1
      go_wp2_with fail
      (with_reducible refine (H1.out _ (by (repeat (first | with_reducible exact Below.refl _ _ | with_reducible refine Bs ?_ | with_reducible refine Ba ?_ | with_reducible refine Bd ?_ | with_reducible refine Bn ?_ | with_reducible refine Bt B1.out ?_)))).mono ?_)
      rintro e w2 ⟨pv, rfl, b2, hpv, _⟩
      obtain rfl := hpv HC0.out
      have B2 := Lib.hid (show Below w.heap.size w w2 from B1.out.trans (b2.mono hz1))
      have hz2 := B2.out.size
      clear b2 hpv
      go_wp2_with fail
      (with_reducible refine (H2.out _ (by (repeat (first | with_reducible exact Below.refl _ _ | with_reducible refine Bs ?_ | with_reducible refine Ba ?_ | with_reducible refine Bd ?_ | with_reducible refine Bn ?_ | with_reducible refine Bt B2.out ?_)))).mono ?_)
      rintro e w3 ⟨rfl, b3⟩
      have B3 := Lib.hid (show Below w.heap.size w w3 from B2.out.trans (b3.mono hz2))
      have hz3 := B3.out.size
      clear b3
      go_wp2_with fail
      (with_reducible refine (lives15_any _).mono ?_)
      rintro e w4 ⟨rfl, b4⟩
      have B4 := Lib.hid b4
      clear b4
      go_wp2_with fail
      go_ret
      exact ⟨rfl, B3.out.trans (B4.out.mono hz3)⟩
end Go.Proofs.Ytjmjnkilgoelbaa
