/-
  WoodB: Walk of copseref23.Tree.
-/
import Derived.Test.YtdbonlpkmncggaaKWoodA
namespace Go.Proofs.Ytdbonlpkmncggaa
open Go.RowKit

set_option maxRecDepth 100000 in
set_option maxHeartbeats 8000000 in
theorem rtree23_any (v : Value) (t : TreeP) (w : World) (h : TreeR w v t) :
    Calls Try.prog 34 #[v] w fun e w' => ∃ v', e = .returned v' ∧ OwnB w' w.heap.size v' (treeBy t) ∧ Below w.heap.size w w' := by
  have HTR := Lib.hid h
  obtain ⟨nv, rfl, hn⟩ := h
  have hn' := hn
  obtain ⟨ad, cc, rfl, _⟩ := hn'
  obtain ⟨n, hnn⟩ : ∃ n, t.nodes.length = n := ⟨_, rfl⟩
  have HN := Lib.hid hnn
  obtain ⟨D, hD⟩ : ∃ D, t.dim = D := ⟨_, rfl⟩
  have HD := Lib.hid hD
  have HNR := Lib.hid hn
  rw [hnn, hD] at HTR
  rw [hnn] at HNR
  rw [hnn, hD]
  clear hn
  cases hB : treeB t with
  | false =>
    have HC := Lib.hid (fun W (hW : TreeR W (.agg #[.int .i64 D, .slice ad n cc]) t) => hB ▸ ristree_any _ t W hW)
    have HE := Lib.hid (show treeBy t = [] by unfold treeBy; rw [hB]; rfl)
    clear hB hnn hD
    go_enter Try.func34, Try.ntmps34
    go_wp2_with fail
    (with_reducible refine (HC.out _ (HTR.out.below (by (repeat (first | with_reducible exact Below.refl _ _ | with_reducible refine Bs ?_ | with_reducible refine Ba ?_ | with_reducible refine Bd ?_ | with_reducible refine Bn ?_))))).mono ?_)
    rintro e w2 ⟨rfl, b2⟩
    have B2 := Lib.hid (show Below w.heap.size w w2 from below_tr (by (repeat (first | with_reducible exact Below.refl _ _ | with_reducible refine Bs ?_ | with_reducible refine Ba ?_ | with_reducible refine Bd ?_ | with_reducible refine Bn ?_))) (b2.mono (by simp)))
    clear b2
    go_wp2_with fail
    go_ret
    exact ⟨_, rfl, by rw [HE.out]; exact World.ownsRow_nil _ _ _ _, B2.out⟩
  | true =>
    have HC := Lib.hid (fun W (hW : TreeR W (.agg #[.int .i64 D, .slice ad n cc]) t) => hB ▸ ristree_any _ t W hW)
    have ht := treeB_true.1 hB
    have HT := Lib.hid ht
    have hd1 := ht.1
    have hd2 := ht.2.1
    have hlen := ht.len
    rw [hD] at hd1 hd2
    rw [hnn] at hlen
    obtain ⟨D, rfl⟩ : ∃ k : Nat, D = (k : Int) := ⟨Int.toNat D, by omega⟩
    have HE := Lib.hid (show treeBy t = putsU D ++ t.nodes.flatMap encN by unfold treeBy; rw [hB, hD]; rfl)
    have hud := u64_small (z := D) (by omega)
    have hDn : (D : Int) ≤ 18446744073709551615 := by omega
    have hnb : (n : Int) ≤ 127 := by omega
    have hpl := putsU_len (n := D)
    clear hB hnn hD ht
    go_enter Try.func34, Try.ntmps34
    go_wp2_with fail
    (with_reducible refine (HC.out _ (HTR.out.below (by (repeat (first | with_reducible exact Below.refl _ _ | with_reducible refine Bs ?_ | with_reducible refine Ba ?_ | with_reducible refine Bd ?_ | with_reducible refine Bn ?_))))).mono ?_); rintro e w2 ⟨rfl, b2⟩; have s2 : w.heap.size + 1 ≤ w2.heap.size := sz b2; have B2 := Lib.hid (Bc (B := w.heap.size) (a := w) (by (repeat (first | with_reducible exact Below.refl _ _ | with_reducible refine Bs ?_ | with_reducible refine Ba ?_ | with_reducible refine Bd ?_ | with_reducible refine Bn ?_))) b2); obtain ⟨c2_0, c2_1⟩ := k2 (w.heap.size) (.int .i64 D) (.slice ad n cc) b2 (by and_intros <;> go_simp); obtain ⟨l2_0, n2_0, m2_0⟩ := lnm (show w.heap.size < w2.heap.size by omega); clear b2
    go_wp2_with fail
    (with_reducible refine (rU_any D _ hDn).mono ?_)
    rintro e w3 ⟨v3, rfl, o3, b3⟩
    have O3 := Lib.hid o3
    have B3 := Lib.hid (show Below w.heap.size w w3 from B2.out.trans (b3.mono (by omega)))
    have s3 : w2.heap.size ≤ w3.heap.size := b3.size
    have k0 : w3.cell? ⟨w.heap.size, 0, none⟩ = some (.int .i64 D) := (b3.cell (p := ⟨w.heap.size, 0, none⟩) (show w.heap.size < w2.heap.size by omega)).trans c2_0
    have k1 : w3.cell? ⟨w.heap.size, 1, none⟩ = some (.slice ad n cc) := (b3.cell (p := ⟨w.heap.size, 1, none⟩) (show w.heap.size < w2.heap.size by omega)).trans c2_1
    obtain ⟨a3, n3, c3, rfl⟩ := own_shape o3
    have b3_ := Lib.hid b3
    clear b3 o3
    have BB := Lib.hid (show ∀ k, (putsU D ++ (t.nodes.take k).flatMap encN).length ≤ 900000 from fun k => by
      have := encs_len HT.out k
      simp only [List.length_append]
      omega)
    go_wp2_with fail
    go_loopw [3, 4, 5, 6] (fun o idx _ _ wr => ∃ k : Nat, idx = .int .i64 k ∧ k ≤ n ∧ OwnB wr w2.heap.size o (putsU D ++ (t.nodes.take k).flatMap encN) ∧ Below w2.heap.size w2 wr) (fun _ idx _ _ _ => n - (intOf idx).toNat)
    case atStart => exact ⟨0, rfl, by omega, by simpa using O3.out, (show Below w2.heap.size w2 w3 from b3_.out)⟩
    case round =>
      obtain ⟨k, rfl, hk, hown, hbr⟩ := hrel
      rename World => wo
      have BR := Lib.hid hbr
      have hz := hbr.size
      have BRW := Lib.hid (show Below w.heap.size w wo from B2.out.trans (hbr.mono B2.out.size))
      have k0 := (hbr.cell (p := ⟨w.heap.size, 0, none⟩) (show w.heap.size < w2.heap.size by omega)).trans c2_0
      have k1 := (hbr.cell (p := ⟨w.heap.size, 1, none⟩) (show w.heap.size < w2.heap.size by omega)).trans c2_1
      have hwz : w.heap.size < wo.heap.size := by omega
      have HO := Lib.hid hown
      obtain ⟨oa, om, oc, rfl⟩ := own_shape hown
      clear hown hbr
      by_cases hlt : k < n
      · obtain ⟨nd, hnd⟩ := getElem?_ex (l := t.nodes) (k := k) (by rw [HN.out]; exact hlt)
        obtain ⟨b0, o0, rfl⟩ := HTR.out.addr (i := k) (by rw [HN.out]; exact hlt)
        obtain ⟨hb0, hat⟩ := (HTR.out).node hnd
        obtain ⟨ca, cac, hci, e0, e1, e2, e3, e4⟩ := hat.val
        have e0 := (BRW.out.cell (p := ⟨b0, o0 + k * 5, none⟩) hb0).trans e0
        have e1 := (BRW.out.cell (p := ⟨b0, o0 + k * 5 + 1, none⟩) hb0).trans e1
        have e2 := (BRW.out.cell (p := ⟨b0, o0 + k * 5 + 2, none⟩) hb0).trans e2
        have e3 := (BRW.out.cell (p := ⟨b0, o0 + k * 5 + 3, none⟩) hb0).trans e3
        have e4 := (BRW.out.cell (p := ⟨b0, o0 + k * 5 + 4, none⟩) hb0).trans e4
        have HCI := Lib.hid hci
        have HTK := Lib.hid (show (t.nodes.take (k + 1)).flatMap encN = (t.nodes.take k).flatMap encN ++ encN nd by rw [List.take_add_one, hnd, List.flatMap_append]; simp)
        have hne := node_enc HT.out hnd
        have LB := BB.out k
        have i1 : (0 : Int) ≤ (k : Int) := by omega
        have i2 : (k : Int) < (n : Int) := by omega
        have hby : b0 ≠ wo.heap.size := by have := BRW.out.size; omega
        have hbz : b0 < wo.heap.size := by have := BRW.out.size; omega
        obtain ⟨XS, hXS⟩ : ∃ XS, putsU D ++ (t.nodes.take k).flatMap encN = XS := ⟨_, rfl⟩
        have HXS := Lib.hid hXS
        rw [hXS] at HO LB
        clear hci hnd hat hXS
        rcases hne with ⟨l1, l2, l3⟩ | ⟨l1, l2, l3, l4⟩
        · have HEN := Lib.hid (encN_leaf l1)
          rw [l1] at e2
          obtain ⟨s, hs⟩ : ∃ s : Nat, nd.size = (s : Int) := ⟨nd.size.toNat, by omega⟩
          rw [hs] at e4 HEN l3
          rw [Int.toNat_natCast] at HEN
          have hus := u64_small (z := s) (by omega)
          have hs2 : (s : Int) ≤ 18446744073709551615 := by omega
          have hps := putsU_len (n := s)
          generalize nd.coef.length = cl at *
          generalize nd.at_ = xa at *
          generalize nd.right = xr at *
          clear l1 l2 l3 hs HCI
          go_wp2_with fail
          (with_reducible refine (rU_any s _ hs2).mono ?_)
          rintro e w4 ⟨v4, rfl, o4, b4⟩
          have O4 := Lib.hid (show OwnB w4 _ v4 (putsU s) from o4)
          have B4 := Lib.hid (show Below wo.heap.size wo w4 from below_tr (by (repeat (first | with_reducible exact Below.refl _ _ | with_reducible refine Bs ?_ | with_reducible refine Ba ?_ | with_reducible refine Bd ?_ | with_reducible refine Bn ?_))) (b4.mono (by first | omega | (simp; done) | (simp; omega))))
          have z4 := B4.out.size
          obtain ⟨a4, m4, c4, rfl⟩ := own_shape o4
          clear b4 o4
          go_wp2_with (at_builtin; go_must (refine appInts rfl _ _ 55 rfl Try.underlying55 eiU8 w2.heap.size (by rfl) (HO.out.below B4.out) (by rfl) (O4.out.ints (by omega)) (by omega) (by omega) ?_))
          intro v5 w5 o5 b5 _
          have O5 := Lib.hid (show OwnB w5 w2.heap.size v5 (XS ++ putsU s) by simpa [OwnB, HXS.out] using o5)
          have B5 := Lib.hid (show Below w2.heap.size w2 w5 from (BR.out.trans (B4.out.mono hz)).trans b5)
          clear o5 b5
          go_wp2_with fail
          go_roundw
          case rel => exact ⟨k + 1, by go_num, by omega, by rw [HTK.out, HEN.out, ← List.append_assoc, HXS.out]; exact O5.out, B5.out⟩
          case measure => simp [intOf] <;> omega
        · have HEN := Lib.hid (encN_node l1)
          have j1 : (nd.left == 0) = false := by rw [beq_eq_false_iff_ne]; exact l1
          obtain ⟨cs, hcs⟩ : ∃ cs, nd.coef = cs := ⟨_, rfl⟩
          rw [hcs] at e0 HCI HEN l2 l3
          have HC64 := Lib.hid l3
          obtain ⟨xa, hxa⟩ : ∃ z, nd.at_ = z := ⟨_, rfl⟩
          rw [hxa] at e1 HEN l4
          have HA64 := Lib.hid l4
          obtain ⟨cl, hcl⟩ : ∃ cl, cs.length = cl := ⟨_, rfl⟩
          have HCL := Lib.hid hcl
          rw [hcl] at e0 HCI l2
          generalize nd.left = xl at *
          generalize nd.right = xr at *
          generalize nd.size = xs at *
          clear l1 l3 l4 hcs hxa hcl
          have NOW := Lib.hid (show (Value.slice oa om oc).ownBlock ≠ some wo.heap.size from fun e => by have := (HO.out.lt _ e).2; omega)
          go_wp2_with (at_builtin; go_must (refine app1N rfl _ _ 55 rfl Try.underlying55 eiU8 w2.heap.size (by rfl) (HO.out.below (by (repeat (first | with_reducible exact Below.refl _ _ | with_reducible refine Bs ?_ | with_reducible refine Ba ?_ | with_reducible refine Bd ?_ | with_reducible refine Bn ?_)))) (by rfl) (by first | rfl | simp) rfl (by simp [Value.oneCell']) (by omega) (by first | omega | (simp; done) | (simp; omega)) ?_))
          intro v5 w5 o5 g5 nb5
          have O5 := Lib.hid (show OwnB w5 w2.heap.size v5 (XS ++ [0]) by simpa [OwnB] using o5)
          have NV5 := Lib.hid (nb5.ne NOW.out (by simp))
          have y0 : w5.cell? ⟨wo.heap.size, 0, none⟩ = some (.slice ca cl cac) := (gcell g5 (by simp) NOW.out).trans (by go_simp)
          have y1 : w5.cell? ⟨wo.heap.size, 1, none⟩ = some (.int .i64 xa) := (gcell g5 (by simp) NOW.out).trans (by go_simp)
          have B5 := Lib.hid (show Below w2.heap.size w2 w5 from BR.out.trans ((show Below w2.heap.size wo _ from by (repeat (first | with_reducible exact Below.refl _ _ | with_reducible refine Bs ?_ | with_reducible refine Ba ?_ | with_reducible refine Bd ?_ | with_reducible refine Bn ?_))).grown g5 (by first | omega | (simp; done) | (simp; omega)) (fun q hq => (HO.out.lt q hq).1)))
          have z5 : wo.heap.size < w5.heap.size := by have := g5.size; simp at this; omega
          obtain ⟨a5, m5, c5, rfl⟩ := own_shape o5
          clear o5 g5 nb5
          go_wp2_with fail
          go_loopw [3, 6] (fun oi_ idx wr => ∃ j : Nat, idx = .int .i64 j ∧ j ≤ cl ∧ OwnB wr w2.heap.size oi_ (XS ++ [0] ++ putsIs (cs.take j)) ∧ oi_.ownBlock ≠ some wo.heap.size ∧ wr.cell? ⟨wo.heap.size, 0, none⟩ = some (.slice ca cl cac) ∧ wr.cell? ⟨wo.heap.size, 1, none⟩ = some (.int .i64 xa) ∧ Below w2.heap.size w2 wr ∧ wo.heap.size < wr.heap.size) (fun _ idx _ => cl - (intOf idx).toNat)
          case atStart => exact ⟨0, rfl, by omega, by rw [List.take_zero, show putsIs [] = [] from rfl, List.append_nil]; exact O5.out, NV5.out, y0, y1, B5.out, z5⟩
          case round =>
            obtain ⟨j, rfl, hj, ho, hnb, y0, y1, hbi, hzi⟩ := hrel
            have hci := HCI.out.below (show Below w.heap.size w wr from B2.out.trans (hbi.mono B2.out.size))
            have HOI := Lib.hid ho
            have HNB := Lib.hid hnb
            have BI := Lib.hid hbi
            obtain ⟨oa2, om2, oc2, rfl⟩ := own_shape ho
            have hpl2 := putsIs_len (cs.take j)
            have hjl : (cs.take j).length ≤ 8 := by rw [List.length_take]; omega
            have hzz := hbi.size
            have k0 := (hbi.cell (p := ⟨w.heap.size, 0, none⟩) (show w.heap.size < w2.heap.size by omega)).trans c2_0
            have k1 := (hbi.cell (p := ⟨w.heap.size, 1, none⟩) (show w.heap.size < w2.heap.size by omega)).trans c2_1
            by_cases hlj : j < cl
            · obtain ⟨x, hx⟩ := getElem?_ex (l := cs) (k := j) (by rw [HCL.out]; exact hlj)
              have hx64 := HC64.out x (List.mem_of_getElem? hx)
              have HPT := Lib.hid (putsIs_take hx)
              have hpx := putsI_len (i := x)
              have i3 : (0 : Int) ≤ (j : Int) := by omega
              have i4 : (j : Int) < (cl : Int) := by omega
              obtain ⟨a', c', e, _, _, _, h4⟩ := hci
              injection e with e1 e2 e3
              subst e1 e3
              clear e2
              obtain ⟨bx, ox, rfl, hbx, hcx⟩ := h4 j x hx
              clear ho hnb hbi hx h4
              go_wp2_with fail
              (with_reducible refine (rI_any x _ hx64).mono ?_)
              rintro e w6 ⟨v6, rfl, o6, b6⟩
              have O6 := Lib.hid (show OwnB w6 _ v6 (putsI x) from o6)
              have B6 := Lib.hid (show Below wr.heap.size wr w6 from b6)
              have z6 := b6.size
              have y0 := (b6.cell (p := ⟨wo.heap.size, 0, none⟩) hzi).trans y0
              have y1 := (b6.cell (p := ⟨wo.heap.size, 1, none⟩) hzi).trans y1
              obtain ⟨a6, m6, c6, rfl⟩ := own_shape o6
              clear b6 o6
              go_wp2_with (at_builtin; go_must (refine appB rfl _ _ rfl w2.heap.size (by rfl) (HOI.out.below B6.out) (by rfl) (O6.out.ints (by omega)) (by simp only [List.length_append, List.length_singleton]; omega) (by omega) ?_))
              intro v7 w7 o7 b7 g7 nb7
              have O7 := Lib.hid (show OwnB w7 w2.heap.size v7 (XS ++ [0] ++ putsIs (cs.take (j + 1))) by rw [HPT.out]; simpa [List.append_assoc] using o7)
              have NB7 := Lib.hid (nb7.ne HNB.out (by omega))
              have B7 := Lib.hid (show Below w2.heap.size w2 w7 from (BI.out.trans (B6.out.mono hzz)).trans b7)
              have y0 := (gcell g7 (show wo.heap.size < w6.heap.size by omega) HNB.out).trans y0
              have y1 := (gcell g7 (show wo.heap.size < w6.heap.size by omega) HNB.out).trans y1
              have z7 := g7.size
              clear o7 b7 g7 nb7
              go_wp2_with fail
              go_roundw
              case rel => exact ⟨j + 1, by go_num, by omega, O7.out, NB7.out, y0, y1, B7.out, by omega⟩
              case measure => simp [intOf] <;> omega
            · obtain rfl : j = cl := by omega
              rw [List.take_of_length_le (by rw [HCL.out]; omega)] at HOI hpl2 hjl
              have hpa := putsI_len (i := xa)
              clear ho hnb hbi hci
              go_wp2_with fail
              (with_reducible refine (rI_any xa _ HA64.out).mono ?_)
              rintro e w6 ⟨v6, rfl, o6, b6⟩
              have O6 := Lib.hid (show OwnB w6 _ v6 (putsI xa) from o6)
              have B6 := Lib.hid (show Below wr.heap.size wr w6 from b6)
              have z6 := b6.size
              obtain ⟨a6, m6, c6, rfl⟩ := own_shape o6
              clear b6 o6
              go_wp2_with (at_builtin; go_must (refine appB rfl _ _ rfl w2.heap.size (by rfl) (HOI.out.below B6.out) (by rfl) (O6.out.ints (by omega)) (by simp only [List.length_append, List.length_singleton]; omega) (by omega) ?_))
              intro v7 w7 o7 b7 g7 nb7
              have O7 := Lib.hid (show OwnB w7 w2.heap.size v7 (XS ++ encN nd) by rw [HEN.out]; simpa [List.append_assoc] using o7)
              have B7 := Lib.hid (show Below w2.heap.size w2 w7 from (BI.out.trans (B6.out.mono hzz)).trans b7)
              clear o7 b7 g7 nb7
              go_wp2_with fail
              go_roundw
              case rel => exact ⟨k + 1, by go_num, by omega, by rw [HTK.out, ← List.append_assoc, HXS.out]; exact O7.out, B7.out⟩
              case measure => simp [intOf] <;> omega
      · obtain rfl : k = n := by omega
        rw [List.take_of_length_le (by rw [HN.out]; omega)] at HO
        go_wp2_with fail
        go_ret
        exact ⟨_, rfl, by rw [HE.out]; exact OwnB.lower HO.out B2.out.size, BRW.out⟩

end Go.Proofs.Ytdbonlpkmncggaa
