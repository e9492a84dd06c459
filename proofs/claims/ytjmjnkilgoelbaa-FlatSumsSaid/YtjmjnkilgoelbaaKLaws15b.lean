/-
  Laws15b: The walk of FlatSums.
-/
import Derived.Test.YtjmjnkilgoelbaaKLaws15a
import Derived.Test.YtjmjnkilgoelbaaKArgMany
namespace Go.Proofs.Ytjmjnkilgoelbaa
open Go.RowKit

set_option maxRecDepth 100000 in
set_option maxHeartbeats 8000000 in
theorem flatSums_walk {w : World} (v : Value) (l : List TreeP) (hv : ArgTrees w v l) (v2 : Value) (x : List Int) (hx : ArgInts .i64 w v2 x) (v3 : Value) (many : List (List Int)) (hm : ArgMany w v3 many) :
    Calls Try.prog 12 #[v, v2, v3] w fun e w' => e = .returned (.bool true) ∧ Below w.heap.size w w' := by
  have HM := Lib.hid (fun W (hb : Below w.heap.size w W) => rmuch12_any v l W (hv.below hb))
  have HTT := Lib.hid (fun (h : muchT l = false) => hv.trees h)
  have HMM := Lib.hid (fun W (hb : Below w.heap.size w W) => rmuch08_any v3 many 40 W (hm.below hb) (by omega))
  have HRR := Lib.hid (fun (h : muchM many 40 = false) => hm.rows h (by omega))
  have HXX := Lib.hid (fun (h : x.length ≤ 20) => hx.ints (by omega))
  rw [show ((40 : Nat) : Int) = 40 from rfl] at HMM
  obtain ⟨ad, cc, rfl, hd1, hd2, _⟩ := hv
  obtain ⟨ax, xc, rfl, hx1, hx2, _⟩ := hx
  obtain ⟨am, mc, rfl, hm1, hm2, _⟩ := hm
  obtain ⟨xn, hxn⟩ : ∃ n, x.length = n := ⟨_, rfl⟩
  rw [hxn] at HXX hx1 ⊢
  obtain ⟨m, hmn⟩ : ∃ n, many.length = n := ⟨_, rfl⟩
  have HMN := Lib.hid hmn
  rw [hmn] at HMM HRR hm1 ⊢
  have hnx : (xn : Int) ≤ 9223372036854775807 := by omega
  have hmx : (m : Int) ≤ 9223372036854775807 := by omega
  clear hxn hmn
  obtain ⟨M, hM⟩ : ∃ M, muchT l = M := ⟨_, rfl⟩
  rw [hM] at HM HTT
  obtain ⟨MM, hMM⟩ : ∃ M, muchM many 40 = M := ⟨_, rfl⟩
  rw [hMM] at HMM HRR
  clear hM hMM
  obtain ⟨n, hn⟩ : ∃ n, l.length = n := ⟨_, rfl⟩
  have HN := Lib.hid hn
  rw [hn] at HM HTT hd1 ⊢
  have hnn : (n : Int) ≤ 9223372036854775807 := by omega
  clear hn
  cases M with
  | true =>
    clear HTT HRR
    go_enter Try.func12, Try.ntmps12
    go_wp2_with fail
    (with_reducible refine (HM.out _ (by (repeat (first | with_reducible exact Below.refl _ _ | with_reducible refine Bs ?_ | with_reducible refine Ba ?_ | with_reducible refine Bd ?_ | with_reducible refine Bn ?_)))).mono ?_)
    rintro e w1 ⟨rfl, b1⟩
    have B1 := Lib.hid b1
    have hz1 := b1.size
    clear b1
    go_wp2_with fail
    (with_reducible refine (lives15_any _).mono ?_)
    rintro e w2 ⟨rfl, b2⟩
    have B2 := Lib.hid (show Below w.heap.size w w2 from B1.out.trans (b2.mono hz1))
    clear b2
    go_wp2_with fail
    go_ret
    exact ⟨by first | rfl | trivial, B2.out⟩

  | false =>
    by_cases h20 : 20 < xn
    · have h21 : (20 : Int) < xn := by omega
      clear HTT HRR
      go_enter Try.func12, Try.ntmps12
      go_wp2_with fail
      (with_reducible refine (HM.out _ (by (repeat (first | with_reducible exact Below.refl _ _ | with_reducible refine Bs ?_ | with_reducible refine Ba ?_ | with_reducible refine Bd ?_ | with_reducible refine Bn ?_)))).mono ?_)
      rintro e w1 ⟨rfl, b1⟩
      have B1 := Lib.hid b1
      have hz1 := b1.size
      clear b1
      go_wp2_with fail
      (with_reducible refine (lives15_any _).mono ?_)
      rintro e w2 ⟨rfl, b2⟩
      have B2 := Lib.hid (show Below w.heap.size w w2 from B1.out.trans (b2.mono hz1))
      clear b2
      go_wp2_with fail
      go_ret
      exact ⟨by first | rfl | trivial, B2.out⟩

    · have h21 : ¬ (20 : Int) < xn := by omega
      cases MM with
      | true =>
        clear HTT HRR
        go_enter Try.func12, Try.ntmps12
        go_wp2_with fail
        (with_reducible refine (HM.out _ (by (repeat (first | with_reducible exact Below.refl _ _ | with_reducible refine Bs ?_ | with_reducible refine Ba ?_ | with_reducible refine Bd ?_ | with_reducible refine Bn ?_)))).mono ?_)
        rintro e w1 ⟨rfl, b1⟩
        have B1 := Lib.hid b1
        have hz1 := b1.size
        clear b1
        go_wp2_with fail
        (with_reducible refine (HMM.out _ (by (repeat (first | with_reducible exact Below.refl _ _ | with_reducible refine Bs ?_ | with_reducible refine Ba ?_ | with_reducible refine Bd ?_ | with_reducible refine Bn ?_ | with_reducible refine Bt B1.out ?_)))).mono ?_)
        rintro e w2 ⟨rfl, b2⟩
        have B2 := Lib.hid (show Below w.heap.size w w2 from B1.out.trans (b2.mono hz1))
        have hz2 := B2.out.size
        clear b2
        go_wp2_with fail
        (with_reducible refine (lives15_any _).mono ?_)
        rintro e w3 ⟨rfl, b3⟩
        have B3 := Lib.hid (show Below w.heap.size w w3 from B2.out.trans (b3.mono hz2))
        clear b3
        go_wp2_with fail
        go_ret
        exact ⟨by first | rfl | trivial, B3.out⟩

      | false =>
        have HT := Lib.hid (HTT.out rfl)
        have HR := Lib.hid (HRR.out rfl)
        have HX := Lib.hid (HXX.out (by omega))
        have h1 := fun W (hb : Below w.heap.size w W) => pack_of _ l W (HT.out.below hb)
        have h2 := fun W (hb : Below w.heap.size w W) => r15of_any _ l W (HT.out.below hb)
        rw [ofR_C] at h2
        obtain ⟨C, hC⟩ : ∃ C, ofC l = C := ⟨_, rfl⟩
        rw [hC] at h1 h2
        have H1 := Lib.hid h1
        have HOF := Lib.hid h2
        have HOC := Lib.hid hC
        clear h1 h2 hC HTT HRR HXX
        by_cases hC0 : C = 0
        · subst hC0
          obtain ⟨FC, hFC⟩ : ∃ C, fbC l many = C := ⟨_, rfl⟩
          have HFC := Lib.hid hFC
          clear hFC
          by_cases h0 : n = 0
          · have HL0 := Lib.hid (List.eq_nil_of_length_eq_zero (HN.out.trans h0))
            have HF4 := Lib.hid (show FC = 4 by rw [← HFC.out]; unfold fbC; rw [if_pos HL0.out])
            have HF0 := Lib.hid (show FC ≠ 0 by rw [HF4.out]; decide)
            have hf4 := HF4.out
            subst hf4
            subst h0
            go_enter Try.func12, Try.ntmps12
            go_wp2_with fail
            (with_reducible refine (HM.out _ (by (repeat (first | with_reducible exact Below.refl _ _ | with_reducible refine Bs ?_ | with_reducible refine Ba ?_ | with_reducible refine Bd ?_ | with_reducible refine Bn ?_)))).mono ?_)
            rintro e w1 ⟨rfl, b1⟩
            have B1 := Lib.hid b1
            have hz1 := b1.size
            clear b1
            go_wp2_with fail
            (with_reducible refine (HMM.out _ (by (repeat (first | with_reducible exact Below.refl _ _ | with_reducible refine Bs ?_ | with_reducible refine Ba ?_ | with_reducible refine Bd ?_ | with_reducible refine Bn ?_ | with_reducible refine Bt B1.out ?_)))).mono ?_)
            rintro e w2 ⟨rfl, b2⟩
            have B2 := Lib.hid (show Below w.heap.size w w2 from B1.out.trans (b2.mono hz1))
            have hz2 := B2.out.size
            clear b2
            go_wp2_with fail
            (with_reducible refine (HOF.out _ (by (repeat (first | with_reducible exact Below.refl _ _ | with_reducible refine Bs ?_ | with_reducible refine Ba ?_ | with_reducible refine Bd ?_ | with_reducible refine Bn ?_ | with_reducible refine Bt B2.out ?_)))).mono ?_)
            rintro e w3 ⟨rfl, b3⟩
            have B3 := Lib.hid (show Below w.heap.size w w3 from B2.out.trans (b3.mono hz2))
            have hz3 := B3.out.size
            clear b3
            go_wp2_with fail
            (with_reducible refine (H1.out _ (by (repeat (first | with_reducible exact Below.refl _ _ | with_reducible refine Bs ?_ | with_reducible refine Ba ?_ | with_reducible refine Bd ?_ | with_reducible refine Bn ?_ | with_reducible refine Bt B3.out ?_)))).mono ?_)
            rintro e w4 ⟨pv, rfl, b4, _, hok⟩
            obtain ⟨P, vs, nv, rfl, hp, hf⟩ := hok (by first | trivial | rfl)
            have B4 := Lib.hid (show Below w.heap.size w w4 from B3.out.trans (b4.mono hz3))
            have HP := Lib.hid hp
            have hz4 := B4.out.size
            clear b4 hok hp hf
            have HFS := Lib.hid (fun W (hW : Below w4.heap.size w4 W) => fSum_any _ x W (HP.out.below hW) (HX.out.below (B4.out.trans (hW.mono hz4))))
            have HFB := Lib.hid (fun W (hW : Below w4.heap.size w4 W) => batch_any _ many W (HP.out.below hW) (HR.out.1.below (B4.out.trans (hW.mono hz4))) (by rw [HMN.out]; have := HR.out.2; omega))
            have HRS := Lib.hid (fun W u y (hW : Below w.heap.size w W) (hu : Ints .i64 W u y) => r15sum_any _ u l y W (HT.out.below hW) hu HOC.out HP.out.ok)
            simp only [HFC.out] at HFB
            have HRX := Lib.hid (fun W (hW : Below w.heap.size w W) => HRS.out W _ x hW (HX.out.below hW))
            obtain ⟨SV, hSV⟩ : ∃ z, fsV l x = z := ⟨_, rfl⟩
            obtain ⟨SE, hSE⟩ : ∃ z, fsE l x = z := ⟨_, rfl⟩
            rw [hSV, hSE] at HFS HRX
            clear hSV hSE
            have j5 : (SV != SV) = false := by simp
            have j6 : (SE != SE) = false := by simp
            go_wp2_with fail
            (with_reducible refine (HFS.out _ (by (repeat (first | with_reducible exact Below.refl _ _ | with_reducible refine Bs ?_ | with_reducible refine Ba ?_ | with_reducible refine Bd ?_ | with_reducible refine Bn ?_ | with_reducible refine Bt B4.out ?_)))).mono ?_)
            rintro e w5 ⟨rfl, d5, hw5⟩
            have B5 := Lib.hid (show Below w4.heap.size w4 w5 from by rw [hw5]; (repeat (first | with_reducible exact Below.refl _ _ | with_reducible refine Bs ?_ | with_reducible refine Ba ?_ | with_reducible refine Bd ?_ | with_reducible refine Bn ?_)))
            have B5W := Lib.hid (show Below w.heap.size w w5 from B4.out.trans (B5.out.mono hz4))
            have hz5 := B5W.out.size
            clear hw5
            go_wp2_with fail
            (with_reducible refine (HRX.out _ (by (repeat (first | with_reducible exact Below.refl _ _ | with_reducible refine Bs ?_ | with_reducible refine Ba ?_ | with_reducible refine Bd ?_ | with_reducible refine Bn ?_ | with_reducible refine Bt B5W.out ?_)))).mono ?_)
            rintro e w6 ⟨rfl, b6⟩
            have B6 := Lib.hid (show Below w4.heap.size w4 w6 from B5.out.trans (b6.mono B5.out.size))
            have hz46 := B6.out.size
            clear b6
            go_wp2_with fail
            (with_reducible refine (HFB.out _ (by (repeat (first | with_reducible exact Below.refl _ _ | with_reducible refine Bs ?_ | with_reducible refine Ba ?_ | with_reducible refine Bd ?_ | with_reducible refine Bn ?_ | with_reducible refine Bt B6.out ?_)))).mono ?_)
            rintro e w7 ⟨gv, rfl, b7, hg0, hg1⟩
            have B7 := Lib.hid (show Below w.heap.size w w7 from B4.out.trans ((B6.out.trans (b7.mono hz46)).mono hz4))
            have hz7 := B7.out.size
            obtain rfl := hg1 HF0.out
            clear b7 hg0 hg1 j5 j6
            go_wp2_with fail
            go_loopw [15, 16, 17, 18, 19] (fun wnt bad i _ _ wr => wnt = .slice none 0 0 ∧ bad = .int .i64 4 ∧ i = .int .i64 0 ∧ wr = w7) (fun _ _ _ _ _ _ => 0)
            case atStart => exact ⟨rfl, rfl, rfl, rfl⟩
            case round =>
              obtain ⟨rfl, rfl, rfl, rfl⟩ := hrel
              have hz8 := B7.out.size
              have B8 := B7
              have hF4 := HF4.out
              by_cases hlt : 0 < m
              · have i2 : (0 : Int) < (m : Int) := by omega
                go_wp2_with fail
                (with_reducible refine (lives15_any _).mono ?_)
                rintro e w9 ⟨rfl, b9⟩
                have B9 := Lib.hid (show Below w.heap.size w w9 from B8.out.trans (b9.mono hz8))
                clear b9
                go_wp2_with fail
                go_ret
                exact ⟨by first | rfl | trivial, B9.out⟩

              · have hm0 : m = 0 := by omega
                subst hm0
                go_wp2_with fail
                (with_reducible refine (lives15_any _).mono ?_)
                rintro e w9 ⟨rfl, b9⟩
                have B9 := Lib.hid (show Below w.heap.size w w9 from B8.out.trans (b9.mono hz8))
                clear b9
                go_wp2_with fail
                go_ret
                exact ⟨by first | rfl | trivial, B9.out⟩

          · have HNE := Lib.hid (show l ≠ [] from fun e => h0 (by rw [← HN.out, e]; rfl))
            by_cases hf : FC = 0
            · have HFZ := Lib.hid hf
              go_enter Try.func12, Try.ntmps12
              go_wp2_with fail
              (with_reducible refine (HM.out _ (by (repeat (first | with_reducible exact Below.refl _ _ | with_reducible refine Bs ?_ | with_reducible refine Ba ?_ | with_reducible refine Bd ?_ | with_reducible refine Bn ?_)))).mono ?_)
              rintro e w1 ⟨rfl, b1⟩
              have B1 := Lib.hid b1
              have hz1 := b1.size
              clear b1
              go_wp2_with fail
              (with_reducible refine (HMM.out _ (by (repeat (first | with_reducible exact Below.refl _ _ | with_reducible refine Bs ?_ | with_reducible refine Ba ?_ | with_reducible refine Bd ?_ | with_reducible refine Bn ?_ | with_reducible refine Bt B1.out ?_)))).mono ?_)
              rintro e w2 ⟨rfl, b2⟩
              have B2 := Lib.hid (show Below w.heap.size w w2 from B1.out.trans (b2.mono hz1))
              have hz2 := B2.out.size
              clear b2
              go_wp2_with fail
              (with_reducible refine (HOF.out _ (by (repeat (first | with_reducible exact Below.refl _ _ | with_reducible refine Bs ?_ | with_reducible refine Ba ?_ | with_reducible refine Bd ?_ | with_reducible refine Bn ?_ | with_reducible refine Bt B2.out ?_)))).mono ?_)
              rintro e w3 ⟨rfl, b3⟩
              have B3 := Lib.hid (show Below w.heap.size w w3 from B2.out.trans (b3.mono hz2))
              have hz3 := B3.out.size
              clear b3
              go_wp2_with fail
              (with_reducible refine (H1.out _ (by (repeat (first | with_reducible exact Below.refl _ _ | with_reducible refine Bs ?_ | with_reducible refine Ba ?_ | with_reducible refine Bd ?_ | with_reducible refine Bn ?_ | with_reducible refine Bt B3.out ?_)))).mono ?_)
              rintro e w4 ⟨pv, rfl, b4, _, hok⟩
              obtain ⟨P, vs, nv, rfl, hp, hf⟩ := hok (by first | trivial | rfl)
              have B4 := Lib.hid (show Below w.heap.size w w4 from B3.out.trans (b4.mono hz3))
              have HP := Lib.hid hp
              have hz4 := B4.out.size
              clear b4 hok hp hf
              have HFS := Lib.hid (fun W (hW : Below w4.heap.size w4 W) => fSum_any _ x W (HP.out.below hW) (HX.out.below (B4.out.trans (hW.mono hz4))))
              have HFB := Lib.hid (fun W (hW : Below w4.heap.size w4 W) => batch_any _ many W (HP.out.below hW) (HR.out.1.below (B4.out.trans (hW.mono hz4))) (by rw [HMN.out]; have := HR.out.2; omega))
              have HRS := Lib.hid (fun W u y (hW : Below w.heap.size w W) (hu : Ints .i64 W u y) => r15sum_any _ u l y W (HT.out.below hW) hu HOC.out HP.out.ok)
              simp only [HFC.out, HFZ.out] at HFB
              have HRX := Lib.hid (fun W (hW : Below w.heap.size w W) => HRS.out W _ x hW (HX.out.below hW))
              obtain ⟨SV, hSV⟩ : ∃ z, fsV l x = z := ⟨_, rfl⟩
              obtain ⟨SE, hSE⟩ : ∃ z, fsE l x = z := ⟨_, rfl⟩
              rw [hSV, hSE] at HFS HRX
              clear hSV hSE
              have j5 : (SV != SV) = false := by simp
              have j6 : (SE != SE) = false := by simp
              go_wp2_with fail
              (with_reducible refine (HFS.out _ (by (repeat (first | with_reducible exact Below.refl _ _ | with_reducible refine Bs ?_ | with_reducible refine Ba ?_ | with_reducible refine Bd ?_ | with_reducible refine Bn ?_ | with_reducible refine Bt B4.out ?_)))).mono ?_)
              rintro e w5 ⟨rfl, d5, hw5⟩
              have B5 := Lib.hid (show Below w4.heap.size w4 w5 from by rw [hw5]; (repeat (first | with_reducible exact Below.refl _ _ | with_reducible refine Bs ?_ | with_reducible refine Ba ?_ | with_reducible refine Bd ?_ | with_reducible refine Bn ?_)))
              have B5W := Lib.hid (show Below w.heap.size w w5 from B4.out.trans (B5.out.mono hz4))
              have hz5 := B5W.out.size
              clear hw5
              go_wp2_with fail
              (with_reducible refine (HRX.out _ (by (repeat (first | with_reducible exact Below.refl _ _ | with_reducible refine Bs ?_ | with_reducible refine Ba ?_ | with_reducible refine Bd ?_ | with_reducible refine Bn ?_ | with_reducible refine Bt B5W.out ?_)))).mono ?_)
              rintro e w6 ⟨rfl, b6⟩
              have B6 := Lib.hid (show Below w4.heap.size w4 w6 from B5.out.trans (b6.mono B5.out.size))
              have hz46 := B6.out.size
              clear b6
              go_wp2_with fail
              (with_reducible refine (HFB.out _ (by (repeat (first | with_reducible exact Below.refl _ _ | with_reducible refine Bs ?_ | with_reducible refine Ba ?_ | with_reducible refine Bd ?_ | with_reducible refine Bn ?_ | with_reducible refine Bt B6.out ?_)))).mono ?_)
              rintro e w7 ⟨gv, rfl, b7, hg0, hg1⟩
              have B7 := Lib.hid (show Below w.heap.size w w7 from B4.out.trans ((B6.out.trans (b7.mono hz46)).mono hz4))
              have hz7 := B7.out.size
              have hgi := hg0 (by first | trivial | rfl)
              obtain ⟨ga, gc, rfl⟩ := hgi.shape
              obtain ⟨gn, hgn⟩ : ∃ n, (many.map (fsV l)).length = n := ⟨_, rfl⟩
              rw [hgn] at hgi ⊢
              have HG := Lib.hid hgi
              clear hgi hgn
              clear b7 hg0 hg1 j5 j6
              have jn : ((n : Int) == 0) = false := by simp; omega
              go_wp2_with fail
              go_loopw [15, 16, 17, 18, 19] (fun wnt bad i _ _ wr => ∃ (k : Nat) (LK : List Int) (B : Int), i = .int .i64 k ∧ k ≤ m ∧ bad = .int .i64 B ∧ wr.ownsRow w7.heap.size 3 1 wnt LK.length (intF LK) ∧ LK.length ≤ k ∧ Below w7.heap.size w7 wr ∧ (B = 0 ∧ (∀ j y, j < k → many[j]? = some y → fsE l y = 0) ∧ LK = (many.take k).map (fsV l) ∨ B ≠ 0 ∧ B = FC)) (fun _ _ i _ _ _ => m - (intOf i).toNat)
              case atStart => exact ⟨0, [], 0, rfl, by omega, rfl, World.ownsRow_nil _ _ _ _, by simp, Below.refl _ _, .inl ⟨rfl, fun j y h => by omega, rfl⟩⟩
              case round =>
                obtain ⟨k, LK, B, rfl, hk, rfl, hown, hlk, hbr, hor⟩ := hrel
                have HO := Lib.hid hown
                have BR := Lib.hid hbr
                have BRW := Lib.hid (show Below w.heap.size w wr from B7.out.trans (hbr.mono hz7))
                have hzr := hbr.size
                have HOR := Lib.hid hor
                clear hown hbr hor
                by_cases hB : B = 0
                · subst hB
                  have HL := Lib.hid (show (∀ j y, j < k → many[j]? = some y → fsE l y = 0) ∧ LK = (many.take k).map (fsV l) from by
                    rcases HOR.out with ⟨_, h1, h2⟩ | ⟨h, _⟩
                    · exact ⟨h1, h2⟩
                    · exact absurd rfl h)
                  clear HOR
                  by_cases hlt : k < m
                  · obtain ⟨y, hy⟩ := getElem?_ex (l := many) (k := k) (by rw [HMN.out]; exact hlt)
                    have hcell : ∀ (i : Nat) (x : List Int), many[i]? = some x → ∃ b o u, am = some ⟨b, o, none⟩ ∧ b < w.heap.size ∧ w.cell? ⟨b, o + i, none⟩ = some u ∧ Ints .i64 w u x := by
                      obtain ⟨a', c', ee, _, _, _, h⟩ := HR.out.1
                      injection ee with e1 _ _
                      rw [e1]
                      exact h
                    obtain ⟨b, o, u, rfl, hb, c0, hu⟩ := hcell k y hy
                    have e0 : wr.cell? ⟨b, o + k, none⟩ = some u := (BRW.out.cell (p := ⟨b, o + k, none⟩) hb).trans c0
                    have HU := Lib.hid (hu.below BRW.out)
                    obtain ⟨ua, uc, rfl⟩ := hu.shape
                    have HY := Lib.hid hy
                    have hbz : b < wr.heap.size := by omega
                    have i1 : (0 : Int) ≤ (k : Int) := by omega
                    have i2 : (k : Int) < (m : Int) := by omega
                    have hm40 : m ≤ 40 := HR.out.2
                    have HS1 := Lib.hid (fun W (hW : Below wr.heap.size wr W) => HRS.out W _ y (BRW.out.trans (hW.mono BRW.out.size)) (HU.out.below hW))
                    obtain ⟨E, hE⟩ : ∃ E, fsE l y = E := ⟨_, rfl⟩
                    obtain ⟨V, hV⟩ : ∃ V, fsV l y = V := ⟨_, rfl⟩
                    rw [hE, hV] at HS1
                    have HE := Lib.hid hE
                    have HV := Lib.hid hV
                    clear hy hcell c0 hu hE hV
                    go_wp2_with fail
                    (with_reducible refine (HS1.out _ (by (repeat (first | with_reducible exact Below.refl _ _ | with_reducible refine Bs ?_ | with_reducible refine Ba ?_ | with_reducible refine Bd ?_ | with_reducible refine Bn ?_)))).mono ?_)
                    rintro e w8 ⟨rfl, b8⟩
                    have B8 := Lib.hid (show Below wr.heap.size wr w8 from b8)
                    have hz8 := b8.size
                    clear b8
                    go_wp2_with (at_builtin; go_must (refine appI rfl _ _ rfl w7.heap.size (by rfl) (own_keep HO.out (fun g _ hg => (show Below wr.heap.size wr _ from by (repeat (first | with_reducible exact Below.refl _ _ | with_reducible refine Bs ?_ | with_reducible refine Ba ?_ | with_reducible refine Bd ?_ | with_reducible refine Bn ?_ | with_reducible refine Bt B8.out ?_))).block g hg)) (by rfl) (Ints.new' .i64 _ 3 #[.int .i64 V] [V] _ 1 1 (by simp) (by rfl) (by rfl) (by omega) (by omega)) (by simp; omega) (by first | omega | (simp; done) | (simp; omega)) ?_))
                    intro v9 w9 o9 g9 nb9
                    have O9 := Lib.hid o9
                    have B9 := Lib.hid (show Below w7.heap.size w7 w9 from (show Below w7.heap.size w7 _ from by (repeat (first | with_reducible exact Below.refl _ _ | with_reducible refine Bs ?_ | with_reducible refine Ba ?_ | with_reducible refine Bd ?_ | with_reducible refine Bn ?_ | with_reducible refine Bt B8.out ?_ | with_reducible refine Bt BR.out ?_))).trans ⟨g9.os, g9.tape, g9.output, g9.size, fun q hq => (g9.block q (by simp; omega) fun e => by have := (HO.out.lt q e.symm).1; omega)⟩)
                    clear o9 g9 nb9
                    go_wp2_with fail
                    go_roundw
                    case rel =>
                      refine ⟨k + 1, LK ++ [V], E, by go_num, by omega, rfl, by simpa using O9.out, by simp; omega, B9.out, ?_⟩
                      by_cases hE0 : E = 0
                      · refine .inl ⟨hE0, fun j z hj hz => ?_, ?_⟩
                        · rcases Nat.lt_or_ge j k with h | h
                          · exact HL.out.1 j z h hz
                          · obtain rfl : j = k := by omega
                            rw [HY.out] at hz
                            injection hz with hz
                            subst hz
                            rw [HE.out]
                            exact hE0
                        · rw [List.take_add_one, HY.out, List.map_append, ← HL.out.2, ← HV.out]
                          rfl
                      · refine .inr ⟨hE0, ?_⟩
                        have h1 := fbE_at HL.out.1 HY.out (by rw [HE.out]; exact hE0)
                        rw [HE.out] at h1
                        rw [← HFC.out]
                        unfold fbC
                        rw [if_neg HNE.out]
                        exact h1.symm
                    case measure => simp [intOf] <;> omega
                  · have hkm : k = m := by omega
                    subst hkm
                    have HZ := Lib.hid (show FC = 0 by
                      rw [← HFC.out]
                      unfold fbC
                      rw [if_neg HNE.out]
                      refine fbE_all fun y hy => ?_
                      obtain ⟨j, hj⟩ := List.getElem?_of_mem hy
                      exact HL.out.1 j y (by have := (List.getElem?_eq_some_iff.1 hj).1; rw [HMN.out] at this; exact this) hj)
                    have HKK := Lib.hid (show Ints .i64 wr _ LK from (Ints.own HO.out (by have := HR.out.2; omega)).2)
                    have HLL := Lib.hid (show LK = many.map (fsV l) from by rw [HL.out.2, List.take_of_length_le (by rw [HMN.out]; exact Nat.le_refl _)])
                    have hgk := HG.out.below BR.out
                    rw [← HLL.out] at hgk
                    have HGK := Lib.hid hgk
                    clear hgk
                    obtain ⟨wa, wn, wc, rfl⟩ := own_shape HO.out
                    go_wp2_with fail
                    refine (same_self _ _ LK _ (HGK.out.below (by (repeat (first | with_reducible exact Below.refl _ _ | with_reducible refine Bs ?_ | with_reducible refine Ba ?_ | with_reducible refine Bd ?_ | with_reducible refine Bn ?_)))) (HKK.out.below (by (repeat (first | with_reducible exact Below.refl _ _ | with_reducible refine Bs ?_ | with_reducible refine Ba ?_ | with_reducible refine Bd ?_ | with_reducible refine Bn ?_))))).mono ?_
                    rintro e w9 ⟨rfl, d9, hw9⟩
                    have B9 := Lib.hid (show Below w.heap.size w w9 from by rw [hw9]; (repeat (first | with_reducible exact Below.refl _ _ | with_reducible refine Bs ?_ | with_reducible refine Ba ?_ | with_reducible refine Bd ?_ | with_reducible refine Bn ?_ | with_reducible refine Bt BRW.out ?_)))
                    have hz9 := B9.out.size
                    clear hw9
                    go_wp2_with fail
                    (with_reducible refine (lives15_any _).mono ?_)
                    rintro e w10 ⟨rfl, b10⟩
                    have B10 := Lib.hid (show Below w.heap.size w w10 from B9.out.trans (b10.mono hz9))
                    clear b10
                    go_wp2_with fail
                    go_ret
                    exact ⟨by first | rfl | trivial, B10.out⟩

                · have HBC := Lib.hid (show B = FC from by
                    rcases HOR.out with ⟨h, _⟩ | ⟨_, h⟩
                    · exact absurd h hB
                    · exact h)
                  exact absurd (HBC.out.trans HFZ.out) hB

            · have HF0 := Lib.hid hf
              go_enter Try.func12, Try.ntmps12
              go_wp2_with fail
              (with_reducible refine (HM.out _ (by (repeat (first | with_reducible exact Below.refl _ _ | with_reducible refine Bs ?_ | with_reducible refine Ba ?_ | with_reducible refine Bd ?_ | with_reducible refine Bn ?_)))).mono ?_)
              rintro e w1 ⟨rfl, b1⟩
              have B1 := Lib.hid b1
              have hz1 := b1.size
              clear b1
              go_wp2_with fail
              (with_reducible refine (HMM.out _ (by (repeat (first | with_reducible exact Below.refl _ _ | with_reducible refine Bs ?_ | with_reducible refine Ba ?_ | with_reducible refine Bd ?_ | with_reducible refine Bn ?_ | with_reducible refine Bt B1.out ?_)))).mono ?_)
              rintro e w2 ⟨rfl, b2⟩
              have B2 := Lib.hid (show Below w.heap.size w w2 from B1.out.trans (b2.mono hz1))
              have hz2 := B2.out.size
              clear b2
              go_wp2_with fail
              (with_reducible refine (HOF.out _ (by (repeat (first | with_reducible exact Below.refl _ _ | with_reducible refine Bs ?_ | with_reducible refine Ba ?_ | with_reducible refine Bd ?_ | with_reducible refine Bn ?_ | with_reducible refine Bt B2.out ?_)))).mono ?_)
              rintro e w3 ⟨rfl, b3⟩
              have B3 := Lib.hid (show Below w.heap.size w w3 from B2.out.trans (b3.mono hz2))
              have hz3 := B3.out.size
              clear b3
              go_wp2_with fail
              (with_reducible refine (H1.out _ (by (repeat (first | with_reducible exact Below.refl _ _ | with_reducible refine Bs ?_ | with_reducible refine Ba ?_ | with_reducible refine Bd ?_ | with_reducible refine Bn ?_ | with_reducible refine Bt B3.out ?_)))).mono ?_)
              rintro e w4 ⟨pv, rfl, b4, _, hok⟩
              obtain ⟨P, vs, nv, rfl, hp, hf⟩ := hok (by first | trivial | rfl)
              have B4 := Lib.hid (show Below w.heap.size w w4 from B3.out.trans (b4.mono hz3))
              have HP := Lib.hid hp
              have hz4 := B4.out.size
              clear b4 hok hp hf
              have HFS := Lib.hid (fun W (hW : Below w4.heap.size w4 W) => fSum_any _ x W (HP.out.below hW) (HX.out.below (B4.out.trans (hW.mono hz4))))
              have HFB := Lib.hid (fun W (hW : Below w4.heap.size w4 W) => batch_any _ many W (HP.out.below hW) (HR.out.1.below (B4.out.trans (hW.mono hz4))) (by rw [HMN.out]; have := HR.out.2; omega))
              have HRS := Lib.hid (fun W u y (hW : Below w.heap.size w W) (hu : Ints .i64 W u y) => r15sum_any _ u l y W (HT.out.below hW) hu HOC.out HP.out.ok)
              simp only [HFC.out] at HFB
              have HRX := Lib.hid (fun W (hW : Below w.heap.size w W) => HRS.out W _ x hW (HX.out.below hW))
              obtain ⟨SV, hSV⟩ : ∃ z, fsV l x = z := ⟨_, rfl⟩
              obtain ⟨SE, hSE⟩ : ∃ z, fsE l x = z := ⟨_, rfl⟩
              rw [hSV, hSE] at HFS HRX
              clear hSV hSE
              have j5 : (SV != SV) = false := by simp
              have j6 : (SE != SE) = false := by simp
              go_wp2_with fail
              (with_reducible refine (HFS.out _ (by (repeat (first | with_reducible exact Below.refl _ _ | with_reducible refine Bs ?_ | with_reducible refine Ba ?_ | with_reducible refine Bd ?_ | with_reducible refine Bn ?_ | with_reducible refine Bt B4.out ?_)))).mono ?_)
              rintro e w5 ⟨rfl, d5, hw5⟩
              have B5 := Lib.hid (show Below w4.heap.size w4 w5 from by rw [hw5]; (repeat (first | with_reducible exact Below.refl _ _ | with_reducible refine Bs ?_ | with_reducible refine Ba ?_ | with_reducible refine Bd ?_ | with_reducible refine Bn ?_)))
              have B5W := Lib.hid (show Below w.heap.size w w5 from B4.out.trans (B5.out.mono hz4))
              have hz5 := B5W.out.size
              clear hw5
              go_wp2_with fail
              (with_reducible refine (HRX.out _ (by (repeat (first | with_reducible exact Below.refl _ _ | with_reducible refine Bs ?_ | with_reducible refine Ba ?_ | with_reducible refine Bd ?_ | with_reducible refine Bn ?_ | with_reducible refine Bt B5W.out ?_)))).mono ?_)
              rintro e w6 ⟨rfl, b6⟩
              have B6 := Lib.hid (show Below w4.heap.size w4 w6 from B5.out.trans (b6.mono B5.out.size))
              have hz46 := B6.out.size
              clear b6
              go_wp2_with fail
              (with_reducible refine (HFB.out _ (by (repeat (first | with_reducible exact Below.refl _ _ | with_reducible refine Bs ?_ | with_reducible refine Ba ?_ | with_reducible refine Bd ?_ | with_reducible refine Bn ?_ | with_reducible refine Bt B6.out ?_)))).mono ?_)
              rintro e w7 ⟨gv, rfl, b7, hg0, hg1⟩
              have B7 := Lib.hid (show Below w.heap.size w w7 from B4.out.trans ((B6.out.trans (b7.mono hz46)).mono hz4))
              have hz7 := B7.out.size
              obtain rfl := hg1 HF0.out
              clear b7 hg0 hg1 j5 j6
              have jn : ((n : Int) == 0) = false := by simp; omega
              go_wp2_with fail
              go_loopw [15, 16, 17, 18, 19] (fun wnt bad i _ _ wr => ∃ (k : Nat) (LK : List Int) (B : Int), i = .int .i64 k ∧ k ≤ m ∧ bad = .int .i64 B ∧ wr.ownsRow w7.heap.size 3 1 wnt LK.length (intF LK) ∧ LK.length ≤ k ∧ Below w7.heap.size w7 wr ∧ (B = 0 ∧ (∀ j y, j < k → many[j]? = some y → fsE l y = 0) ∧ LK = (many.take k).map (fsV l) ∨ B ≠ 0 ∧ B = FC)) (fun _ _ i _ _ _ => m - (intOf i).toNat)
              case atStart => exact ⟨0, [], 0, rfl, by omega, rfl, World.ownsRow_nil _ _ _ _, by simp, Below.refl _ _, .inl ⟨rfl, fun j y h => by omega, rfl⟩⟩
              case round =>
                obtain ⟨k, LK, B, rfl, hk, rfl, hown, hlk, hbr, hor⟩ := hrel
                have HO := Lib.hid hown
                have BR := Lib.hid hbr
                have BRW := Lib.hid (show Below w.heap.size w wr from B7.out.trans (hbr.mono hz7))
                have hzr := hbr.size
                have HOR := Lib.hid hor
                clear hown hbr hor
                by_cases hB : B = 0
                · subst hB
                  have HL := Lib.hid (show (∀ j y, j < k → many[j]? = some y → fsE l y = 0) ∧ LK = (many.take k).map (fsV l) from by
                    rcases HOR.out with ⟨_, h1, h2⟩ | ⟨h, _⟩
                    · exact ⟨h1, h2⟩
                    · exact absurd rfl h)
                  clear HOR
                  by_cases hlt : k < m
                  · obtain ⟨y, hy⟩ := getElem?_ex (l := many) (k := k) (by rw [HMN.out]; exact hlt)
                    have hcell : ∀ (i : Nat) (x : List Int), many[i]? = some x → ∃ b o u, am = some ⟨b, o, none⟩ ∧ b < w.heap.size ∧ w.cell? ⟨b, o + i, none⟩ = some u ∧ Ints .i64 w u x := by
                      obtain ⟨a', c', ee, _, _, _, h⟩ := HR.out.1
                      injection ee with e1 _ _
                      rw [e1]
                      exact h
                    obtain ⟨b, o, u, rfl, hb, c0, hu⟩ := hcell k y hy
                    have e0 : wr.cell? ⟨b, o + k, none⟩ = some u := (BRW.out.cell (p := ⟨b, o + k, none⟩) hb).trans c0
                    have HU := Lib.hid (hu.below BRW.out)
                    obtain ⟨ua, uc, rfl⟩ := hu.shape
                    have HY := Lib.hid hy
                    have hbz : b < wr.heap.size := by omega
                    have i1 : (0 : Int) ≤ (k : Int) := by omega
                    have i2 : (k : Int) < (m : Int) := by omega
                    have hm40 : m ≤ 40 := HR.out.2
                    have HS1 := Lib.hid (fun W (hW : Below wr.heap.size wr W) => HRS.out W _ y (BRW.out.trans (hW.mono BRW.out.size)) (HU.out.below hW))
                    obtain ⟨E, hE⟩ : ∃ E, fsE l y = E := ⟨_, rfl⟩
                    obtain ⟨V, hV⟩ : ∃ V, fsV l y = V := ⟨_, rfl⟩
                    rw [hE, hV] at HS1
                    have HE := Lib.hid hE
                    have HV := Lib.hid hV
                    clear hy hcell c0 hu hE hV
                    go_wp2_with fail
                    (with_reducible refine (HS1.out _ (by (repeat (first | with_reducible exact Below.refl _ _ | with_reducible refine Bs ?_ | with_reducible refine Ba ?_ | with_reducible refine Bd ?_ | with_reducible refine Bn ?_)))).mono ?_)
                    rintro e w8 ⟨rfl, b8⟩
                    have B8 := Lib.hid (show Below wr.heap.size wr w8 from b8)
                    have hz8 := b8.size
                    clear b8
                    go_wp2_with (at_builtin; go_must (refine appI rfl _ _ rfl w7.heap.size (by rfl) (own_keep HO.out (fun g _ hg => (show Below wr.heap.size wr _ from by (repeat (first | with_reducible exact Below.refl _ _ | with_reducible refine Bs ?_ | with_reducible refine Ba ?_ | with_reducible refine Bd ?_ | with_reducible refine Bn ?_ | with_reducible refine Bt B8.out ?_))).block g hg)) (by rfl) (Ints.new' .i64 _ 3 #[.int .i64 V] [V] _ 1 1 (by simp) (by rfl) (by rfl) (by omega) (by omega)) (by simp; omega) (by first | omega | (simp; done) | (simp; omega)) ?_))
                    intro v9 w9 o9 g9 nb9
                    have O9 := Lib.hid o9
                    have B9 := Lib.hid (show Below w7.heap.size w7 w9 from (show Below w7.heap.size w7 _ from by (repeat (first | with_reducible exact Below.refl _ _ | with_reducible refine Bs ?_ | with_reducible refine Ba ?_ | with_reducible refine Bd ?_ | with_reducible refine Bn ?_ | with_reducible refine Bt B8.out ?_ | with_reducible refine Bt BR.out ?_))).trans ⟨g9.os, g9.tape, g9.output, g9.size, fun q hq => (g9.block q (by simp; omega) fun e => by have := (HO.out.lt q e.symm).1; omega)⟩)
                    clear o9 g9 nb9
                    go_wp2_with fail
                    go_roundw
                    case rel =>
                      refine ⟨k + 1, LK ++ [V], E, by go_num, by omega, rfl, by simpa using O9.out, by simp; omega, B9.out, ?_⟩
                      by_cases hE0 : E = 0
                      · refine .inl ⟨hE0, fun j z hj hz => ?_, ?_⟩
                        · rcases Nat.lt_or_ge j k with h | h
                          · exact HL.out.1 j z h hz
                          · obtain rfl : j = k := by omega
                            rw [HY.out] at hz
                            injection hz with hz
                            subst hz
                            rw [HE.out]
                            exact hE0
                        · rw [List.take_add_one, HY.out, List.map_append, ← HL.out.2, ← HV.out]
                          rfl
                      · refine .inr ⟨hE0, ?_⟩
                        have h1 := fbE_at HL.out.1 HY.out (by rw [HE.out]; exact hE0)
                        rw [HE.out] at h1
                        rw [← HFC.out]
                        unfold fbC
                        rw [if_neg HNE.out]
                        exact h1.symm
                    case measure => simp [intOf] <;> omega
                  · have hkm : k = m := by omega
                    subst hkm
                    have HZ := Lib.hid (show FC = 0 by
                      rw [← HFC.out]
                      unfold fbC
                      rw [if_neg HNE.out]
                      refine fbE_all fun y hy => ?_
                      obtain ⟨j, hj⟩ := List.getElem?_of_mem hy
                      exact HL.out.1 j y (by have := (List.getElem?_eq_some_iff.1 hj).1; rw [HMN.out] at this; exact this) hj)
                    exact absurd HZ.out HF0.out
                · have HBC := Lib.hid (show B = FC from by
                    rcases HOR.out with ⟨h, _⟩ | ⟨_, h⟩
                    · exact absurd h hB
                    · exact h)
                  have jB := Lib.hid (show (B != 0) = true by simp [hB])
                  have jBB := Lib.hid (show (FC == FC) = true by simp)
                  have hB0 := HBC.out
                  subst hB0
                  have j7 := jB.out
                  have j8 := jBB.out
                  have hi : ∀ z : Int, (B == 0) = false := fun _ => by simp [hB]
                  have j9 : (B == 0) = false := hi 0
                  clear hi
                  have hz8 := BRW.out.size
                  have B8 := BRW
                  have hkm : decide ((k : Int) < (m : Int)) = true ∨ decide ((k : Int) < (m : Int)) = false := by cases decide ((k : Int) < (m : Int)) <;> simp
                  by_cases hlt : k < m
                  · have i2 : (k : Int) < (m : Int) := by omega
                    go_wp2_with fail
                    (with_reducible refine (lives15_any _).mono ?_)
                    rintro e w9 ⟨rfl, b9⟩
                    have B9 := Lib.hid (show Below w.heap.size w w9 from B8.out.trans (b9.mono hz8))
                    clear b9
                    go_wp2_with fail
                    go_ret
                    exact ⟨by first | rfl | trivial, B9.out⟩

                  · have i2 : ¬ (k : Int) < (m : Int) := by omega
                    go_wp2_with fail
                    (with_reducible refine (lives15_any _).mono ?_)
                    rintro e w9 ⟨rfl, b9⟩
                    have B9 := Lib.hid (show Below w.heap.size w w9 from B8.out.trans (b9.mono hz8))
                    clear b9
                    go_wp2_with fail
                    go_ret
                    exact ⟨by first | rfl | trivial, B9.out⟩


        · have j1 : (C != 0) = true := by simp [hC0]
          clear hC0
          go_enter Try.func12, Try.ntmps12
          go_wp2_with fail
          (with_reducible refine (HM.out _ (by (repeat (first | with_reducible exact Below.refl _ _ | with_reducible refine Bs ?_ | with_reducible refine Ba ?_ | with_reducible refine Bd ?_ | with_reducible refine Bn ?_)))).mono ?_)
          rintro e w1 ⟨rfl, b1⟩
          have B1 := Lib.hid b1
          have hz1 := b1.size
          clear b1
          go_wp2_with fail
          (with_reducible refine (HMM.out _ (by (repeat (first | with_reducible exact Below.refl _ _ | with_reducible refine Bs ?_ | with_reducible refine Ba ?_ | with_reducible refine Bd ?_ | with_reducible refine Bn ?_ | with_reducible refine Bt B1.out ?_)))).mono ?_)
          rintro e w2 ⟨rfl, b2⟩
          have B2 := Lib.hid (show Below w.heap.size w w2 from B1.out.trans (b2.mono hz1))
          have hz2 := B2.out.size
          clear b2
          go_wp2_with fail
          (with_reducible refine (HOF.out _ (by (repeat (first | with_reducible exact Below.refl _ _ | with_reducible refine Bs ?_ | with_reducible refine Ba ?_ | with_reducible refine Bd ?_ | with_reducible refine Bn ?_ | with_reducible refine Bt B2.out ?_)))).mono ?_)
          rintro e w3 ⟨rfl, b3⟩
          have B3 := Lib.hid (show Below w.heap.size w w3 from B2.out.trans (b3.mono hz2))
          have hz3 := B3.out.size
          clear b3
          go_wp2_with fail
          (with_reducible refine (lives15_any _).mono ?_)
          rintro e w4 ⟨rfl, b4⟩
          have B4 := Lib.hid (show Below w.heap.size w w4 from B3.out.trans (b4.mono hz3))
          clear b4
          go_wp2_with fail
          go_ret
          exact ⟨by first | rfl | trivial, B4.out⟩

end Go.Proofs.Ytjmjnkilgoelbaa
