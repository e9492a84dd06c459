/-
  WoodC: Walks of wood.PutForest and copseref23.Forest.
-/
import Derived.Test.YtgobbecpnjelmaaGreatJ3a
import Derived.Test.YtgobbecpnjelmaaGreatKForG
namespace Go.Proofs.YtgobbecpnjelmaaGreat
open Go.RowKit

theorem treeBy_len (t : TreeP) : (treeBy t).length ≤ 11600 := by
 unfold treeBy
 split
 ·rename_i h
  have := encs_len (treeB_true.1 h) t.nodes.length
  rw [List.take_length] at this
  have := putsU_len (n := t.dim.toNat)
  rw [List.length_append]
  omega
 ·simp

theorem growns_len {f : List (TreeP × Int)} (h : isF f = true) (k : Nat) : ((f.take k).flatMap grownBy').length ≤ 16 * 11610 := by
 have hl := isF_len h
 have H : ∀ l : List (TreeP × Int), (l.flatMap grownBy').length ≤ l.length * 11610 := by
  intro l
  induction l with
  | nil => simp
  | cons p l ih =>
   rw [List.flatMap_cons, List.length_append, List.length_cons]
   have := treeBy_len p.1
   have := putsU_len (n := p.2.toNat)
   have : (grownBy' p).length ≤ 11610 := by unfold grownBy'; rw [List.length_append]; omega
   omega
 have := H (f.take k)
 rw [List.length_take] at this
 exact Nat.le_trans this (Nat.mul_le_mul_right _ (by omega))

set_option maxRecDepth 100000 in
set_option maxHeartbeats 8000000 in
theorem putForest_any (vb : Value) (b : List Int) (v : Value) (f : List (TreeP × Int)) (w : World) (hvb : Ints .u8 w vb b) (hbl : b.length ≤ 10000) (h : GrownsR w v f) :
  Calls Tryz.prog 52 #[vb, v] w fun e w' => ∃ v', e = .returned v' ∧ OwnB w' w.heap.size v' (b ++ forestBy f) ∧ Below w.heap.size w w' := by
 have HVB := hH hvb
 have HG := hH h
 obtain ⟨ad, cc, rfl, _⟩ := h
 obtain ⟨n, hnn⟩ : ∃ n, f.length = n := ⟨_, rfl⟩
 have HN := hH hnn
 rw [hnn] at HG
 rw [hnn]
 cases hB : isF f with
 | false =>
  have HC := hH (fun W (hW : GrownsR W (.slice ad n cc) f) => hB ▸ fis_any _ f W hW)
  have HE := hH (show forestBy f = [] by unfold forestBy; rw [hB]; rfl)
  clear hB hnn
  go_enter Tryz.func52, Tryz.ntmps52
  go_wp2_with fail
  (with_reducible refine (clone8_any _ b _ (HVB.out.below bw) (by omega)).mono ?_)
  rintro e w1 ⟨v1, rfl, o1, b1⟩
  have O1 := hH (show OwnB w1 w.heap.size v1 b by simpa [OwnB] using o1)
  have B1 := hH b1
  obtain ⟨a1, n1, c1, rfl⟩ := own_shape o1
  clear b1 o1
  go_wp2_with fail
  (with_reducible refine (HC.out _ (HG.out.below B1.out)).mono ?_)
  rintro e w2 ⟨rfl, b2⟩
  have B2 := hH (show Below w.heap.size w w2 from B1.out.trans (b2.mono B1.out.size))
  have O2 := hH (O1.out.below b2)
  clear b2
  go_wp2_with fail
  go_ret
  exact ⟨_, rfl, by rw [HE.out, List.append_nil]; exact O2.out, B2.out⟩
 | true =>
  have HC := hH (fun W (hW : GrownsR W (.slice ad n cc) f) => hB ▸ fis_any _ f W hW)
  have HF := hH hB
  have hn16 : n ≤ 16 := by have := isF_len hB; rw [hnn] at this; exact this
  have HE := hH (show forestBy f = putsU n ++ f.flatMap grownBy' by unfold forestBy; rw [hB, hnn]; rfl)
  have hud := u64_small (z := n) (by omega)
  have hDn : (n : Int) ≤ 18446744073709551615 := by omega
  have hpl := putsU_len (n := n)
  clear hB hnn
  go_enter Tryz.func52, Tryz.ntmps52
  go_wp2_with fail
  (with_reducible refine (clone8_any _ b _ (HVB.out.below bw) (by omega)).mono ?_)
  rintro e w1 ⟨v1, rfl, o1, b1⟩
  have O1 := hH (show OwnB w1 w.heap.size v1 b by simpa [OwnB] using o1)
  have B1 := hH b1
  obtain ⟨a1, n1, c1, rfl⟩ := own_shape o1
  clear b1 o1
  go_wp2_with fail
  (with_reducible refine (HC.out _ (HG.out.below B1.out)).mono ?_)
  rintro e w2 ⟨rfl, b2⟩
  have B2 := hH (show Below w.heap.size w w2 from B1.out.trans (b2.mono B1.out.size))
  have s2 := B2.out.size
  have O2 := hH (O1.out.below b2)
  clear b2
  go_wp2_with fail
  (with_reducible refine (putU_any _ b n _ (O2.out.ints (by omega)) (by omega) hDn).mono ?_)
  rintro e w3 ⟨v3, rfl, o3, b3⟩
  have O3 := hH o3
  have b3_ := hH b3
  obtain ⟨a3, n3, c3, rfl⟩ := own_shape o3
  clear b3 o3
  have BB := hH (fun k => growns_len HF.out k)
  go_wp2_with fail
  go_loopw [5, 7, 21] (fun o _ idx wr => ∃ k : Nat, idx = .int .i64 k ∧ k ≤ n ∧ OwnB wr w2.heap.size o ((b ++ putsU n) ++ (f.take k).flatMap grownBy') ∧ Below w2.heap.size w2 wr) (fun _ _ idx _ => n - (intOf idx).toNat)
  case atStart => exact ⟨0, rfl, by omega, by simpa using O3.out, b3_.out⟩
  case round =>
   obtain ⟨k, rfl, hk, hown, hbr⟩ := hrel
   have BR := hH hbr
   have hz := hbr.size
   have BRW := hH (show Below w.heap.size w wr from B2.out.trans (hbr.mono s2))
   have HO := hH hown
   obtain ⟨oa, om, oc, rfl⟩ := own_shape hown
   clear hown hbr
   by_cases hlt : k < n
   ·obtain ⟨p, hp⟩ := getElem?_ex (l := f) (k := k) (by rw [HN.out]; exact hlt)
    obtain ⟨b0, o0, na, nc, rfl, hb0, c0, c1', c2, _, hnp⟩ := growns_at HG.out hp
    have e0 := (BRW.out.cell (p := ⟨b0, o0 + k * 3, none⟩) hb0).trans c0
    have e1 := (BRW.out.cell (p := ⟨b0, o0 + k * 3 + 1, none⟩) hb0).trans c1'
    have e2 := (BRW.out.cell (p := ⟨b0, o0 + k * 3 + 2, none⟩) hb0).trans c2
    have HT := hH (show TreeR w (.agg #[.int .i64 p.1.dim, .slice na p.1.nodes.length nc]) p.1 from ⟨_, rfl, hnp⟩)
    have hborn := (isF_at HF.out hp).1
    have HTK := hH (show (f.take (k + 1)).flatMap grownBy' = (f.take k).flatMap grownBy' ++ (putsU p.2.toNat ++ treeBy p.1) by rw [List.take_add_one, hp, List.flatMap_append]; simp [grownBy'])
    have LB := BB.out k
    obtain ⟨z, hz0⟩ : ∃ z : Nat, p.2 = (z : Int) := ⟨p.2.toNat, by omega⟩
    rw [hz0] at e2 hborn HTK
    rw [Int.toNat_natCast] at HTK
    have huz := u64_small (z := z) (by omega)
    have hz18 : (z : Int) ≤ 18446744073709551615 := by omega
    have hpz := putsU_len (n := z)
    have htl := treeBy_len p.1
    have i1 : (0 : Int) ≤ (k : Int) := by omega
    have i2 : (k : Int) < (n : Int) := by omega
    have hby : b0 ≠ wr.heap.size := by have := BRW.out.size; omega
    have hbz : b0 < wr.heap.size := by have := BRW.out.size; omega
    have HPT := hH (fun (vb : Value) (bs : List Int) W (h1 : Ints .u8 W vb bs) (h2 : bs.length ≤ 800000) (hW : TreeR W (.agg #[.int .i64 p.1.dim, .slice na p.1.nodes.length nc]) p.1) => putTree_any vb bs _ p.1 W h1 h2 hW)
    have HRT := hH (fun W (hW : TreeR W (.agg #[.int .i64 p.1.dim, .slice na p.1.nodes.length nc]) p.1) => rtree23_any _ p.1 W hW)
    obtain ⟨TB, hTB⟩ : ∃ TB, treeBy p.1 = TB := ⟨_, rfl⟩
    rw [hTB] at HTK HPT HRT htl
    obtain ⟨XS, hXS⟩ : ∃ XS, (b ++ putsU n) ++ (f.take k).flatMap grownBy' = XS := ⟨_, rfl⟩
    have hXL : XS.length ≤ 300000 := by rw [← hXS]; simp only [List.length_append]; omega
    have HXS := hH hXS
    rw [hXS] at HO
    clear c0 c1' c2 hnp hp hz0 hXS hTB hborn LB
    generalize p.1.nodes.length = tn at *
    generalize p.1.dim = d at *
    go_upto_region 8 with fail
    refine wp_region_held_drew (S := fun w' => w'.cell? ⟨wr.heap.size, 0, none⟩ = some (.int .i64 d) ∧ w'.cell? ⟨wr.heap.size, 1, none⟩ = some (.slice na tn nc) ∧ w'.cell? ⟨wr.heap.size, 2, none⟩ = some (.int .i64 z)) rJ kJ (fun hHeld => ?_); refine lJ 0 hHeld ?_; refine lJ 1 hHeld ?_; refine lJ 2 hHeld ?_; refine lJ 3 hHeld ?_; refine lJ 5 hHeld ?_; refine lJ 6 hHeld ?_; refine lexHv 4 rfl ?_ rJ; (intro K hK); (go_simp; (go_at_call 50); ((with_reducible refine (putU_any _ XS z _ (((HO.out.below bw).ints (by omega))) (by omega) hz18).mono ?_)); (rintro e w4 ⟨v4, rfl, o4, b4⟩); (have O4 := hH o4); (have B4 := hH (show Below wr.heap.size wr w4 from below_tr bw (b4.mono mJ))); (have z4 : wr.heap.size < w4.heap.size := by have := b4.size; simp at this; omega); (have y0 : w4.cell? ⟨wr.heap.size, 0, none⟩ = some (.int .i64 d) := (b4.cell mJ).trans (by go_simp)); (have y1 : w4.cell? ⟨wr.heap.size, 1, none⟩ = some (.slice na tn nc) := (b4.cell mJ).trans (by go_simp)); (have y2 : w4.cell? ⟨wr.heap.size, 2, none⟩ = some (.int .i64 z) := (b4.cell mJ).trans (by go_simp)); (obtain ⟨a4, m4, c4, rfl⟩ := own_shape o4); (clear b4 o4); (try go_wp2_with fail)); clear hHeld; refine pJ hK fun hHeld => ?_; clear hK K; refine lexHv 7 rfl ?_ rJ; (intro K hK); (go_simp; (go_at_call 93); ((with_reducible refine (HPT.out _ _ _ (O4.out.ints (by simp only [List.length_append]; omega)) (by simp only [List.length_append]; omega) ((HT.out.below BRW.out).below B4.out)).mono ?_)); (rintro e w5 ⟨v5, rfl, o5, b5⟩); (have O5 := hH o5); (have B5 := hH (show Below wr.heap.size wr w5 from B4.out.trans (b5.mono B4.out.size))); (have x0 := (b5.cell (p := ⟨wr.heap.size, 0, none⟩) z4).trans y0); (have x1 := (b5.cell (p := ⟨wr.heap.size, 1, none⟩) z4).trans y1); (have x2 := (b5.cell (p := ⟨wr.heap.size, 2, none⟩) z4).trans y2); (obtain ⟨a5, m5, c5, rfl⟩ := own_shape o5); (clear b5 o5); (try go_wp2_with fail)); clear hHeld; refine pJ hK fun hHeld => ?_; clear hK K; refine lJ 8 hHeld ?_; refine wpAnyH_done rJ ?_ _
    all_goals
     go_wp2_with fail
     go_roundw
     case rel => exact ⟨k + 1, by go_num, by omega, by rw [HTK.out, ← List.append_assoc, HXS.out]; simpa [List.append_assoc] using OwnB.lower O5.out (by omega), BR.out.trans (B5.out.mono hz)⟩
     case measure => simp [intOf] <;> omega
   ·obtain rfl : k = n := by omega
    rw [List.take_of_length_le (by rw [HN.out]; omega)] at HO
    go_wp2_with fail
    go_ret
    exact ⟨_, rfl, by rw [HE.out]; rw [← List.append_assoc]; exact OwnB.lower HO.out s2, BRW.out⟩

set_option maxRecDepth 100000 in
set_option maxHeartbeats 8000000 in
theorem rforest23_any (v : Value) (f : List (TreeP × Int)) (w : World) (h : GrownsR w v f) :
  Calls Tryz.prog 57 #[v] w fun e w' => ∃ v', e = .returned v' ∧ OwnB w' w.heap.size v' (forestBy f) ∧ Below w.heap.size w w' := by
 have HG := hH h
 obtain ⟨ad, cc, rfl, _⟩ := h
 obtain ⟨n, hnn⟩ : ∃ n, f.length = n := ⟨_, rfl⟩
 have HN := hH hnn
 rw [hnn] at HG
 rw [hnn]
 cases hB : isF f with
 | false =>
  have HC := hH (fun W (hW : GrownsR W (.slice ad n cc) f) => hB ▸ ris14_any _ f W hW)
  have HE := hH (show forestBy f = [] by unfold forestBy; rw [hB]; rfl)
  clear hB hnn
  go_enter Tryz.func57, Tryz.ntmps57
  go_wp2_with fail
  (with_reducible refine (HC.out _ (HG.out.below bw)).mono ?_)
  rintro e w2 ⟨rfl, b2⟩
  have B2 := hH (show Below w.heap.size w w2 from b2)
  clear b2
  go_wp2_with fail
  go_ret
  exact ⟨_, rfl, by rw [HE.out]; exact World.ownsRow_nil _ _ _ _, B2.out⟩
 | true =>
  have HC := hH (fun W (hW : GrownsR W (.slice ad n cc) f) => hB ▸ ris14_any _ f W hW)
  have HF := hH hB
  have hn16 : n ≤ 16 := by have := isF_len hB; rw [hnn] at this; exact this
  have HE := hH (show forestBy f = putsU n ++ f.flatMap grownBy' by unfold forestBy; rw [hB, hnn]; rfl)
  have hud := u64_small (z := n) (by omega)
  have hDn : (n : Int) ≤ 18446744073709551615 := by omega
  have hpl := putsU_len (n := n)
  clear hB hnn
  go_enter Tryz.func57, Tryz.ntmps57
  go_wp2_with fail
  (with_reducible refine (HC.out _ (HG.out.below bw)).mono ?_)
  rintro e w2 ⟨rfl, b2⟩
  have B2 := hH (show Below w.heap.size w w2 from b2)
  have s2 := B2.out.size
  clear b2
  go_wp2_with fail
  (with_reducible refine (rU_any n _ hDn).mono ?_)
  rintro e w3 ⟨v3, rfl, o3, b3⟩
  have O3 := hH o3
  have b3_ := hH b3
  obtain ⟨a3, n3, c3, rfl⟩ := own_shape o3
  clear b3 o3
  have BB := hH (fun k => growns_len HF.out k)
  go_wp2_with fail
  go_loopw [3, 4] (fun o idx wr => ∃ k : Nat, idx = .int .i64 k ∧ k ≤ n ∧ OwnB wr w2.heap.size o (putsU n ++ (f.take k).flatMap grownBy') ∧ Below w2.heap.size w2 wr) (fun _ idx _ => n - (intOf idx).toNat)
  case atStart => exact ⟨0, rfl, by omega, by simpa using O3.out, b3_.out⟩
  case round =>
   obtain ⟨k, rfl, hk, hown, hbr⟩ := hrel
   have BR := hH hbr
   have hz := hbr.size
   have BRW := hH (show Below w.heap.size w wr from B2.out.trans (hbr.mono s2))
   have HO := hH hown
   obtain ⟨oa, om, oc, rfl⟩ := own_shape hown
   clear hown hbr
   by_cases hlt : k < n
   ·obtain ⟨p, hp⟩ := getElem?_ex (l := f) (k := k) (by rw [HN.out]; exact hlt)
    obtain ⟨b0, o0, na, nc, rfl, hb0, c0, c1', c2, _, hnp⟩ := growns_at HG.out hp
    have e0 := (BRW.out.cell (p := ⟨b0, o0 + k * 3, none⟩) hb0).trans c0
    have e1 := (BRW.out.cell (p := ⟨b0, o0 + k * 3 + 1, none⟩) hb0).trans c1'
    have e2 := (BRW.out.cell (p := ⟨b0, o0 + k * 3 + 2, none⟩) hb0).trans c2
    have HT := hH (show TreeR w (.agg #[.int .i64 p.1.dim, .slice na p.1.nodes.length nc]) p.1 from ⟨_, rfl, hnp⟩)
    have hborn := (isF_at HF.out hp).1
    have HTK := hH (show (f.take (k + 1)).flatMap grownBy' = (f.take k).flatMap grownBy' ++ (putsU p.2.toNat ++ treeBy p.1) by rw [List.take_add_one, hp, List.flatMap_append]; simp [grownBy'])
    have LB := BB.out k
    obtain ⟨z, hz0⟩ : ∃ z : Nat, p.2 = (z : Int) := ⟨p.2.toNat, by omega⟩
    rw [hz0] at e2 hborn HTK
    rw [Int.toNat_natCast] at HTK
    have huz := u64_small (z := z) (by omega)
    have hz18 : (z : Int) ≤ 18446744073709551615 := by omega
    have hpz := putsU_len (n := z)
    have htl := treeBy_len p.1
    have i1 : (0 : Int) ≤ (k : Int) := by omega
    have i2 : (k : Int) < (n : Int) := by omega
    have hby : b0 ≠ wr.heap.size := by have := BRW.out.size; omega
    have hbz : b0 < wr.heap.size := by have := BRW.out.size; omega
    have HPT := hH (fun (vb : Value) (bs : List Int) W (h1 : Ints .u8 W vb bs) (h2 : bs.length ≤ 800000) (hW : TreeR W (.agg #[.int .i64 p.1.dim, .slice na p.1.nodes.length nc]) p.1) => putTree_any vb bs _ p.1 W h1 h2 hW)
    have HRT := hH (fun W (hW : TreeR W (.agg #[.int .i64 p.1.dim, .slice na p.1.nodes.length nc]) p.1) => rtree23_any _ p.1 W hW)
    obtain ⟨TB, hTB⟩ : ∃ TB, treeBy p.1 = TB := ⟨_, rfl⟩
    rw [hTB] at HTK HPT HRT htl
    obtain ⟨XS, hXS⟩ : ∃ XS, putsU n ++ (f.take k).flatMap grownBy' = XS := ⟨_, rfl⟩
    have hXL : XS.length ≤ 300000 := by rw [← hXS]; simp only [List.length_append]; omega
    have HXS := hH hXS
    rw [hXS] at HO
    clear c0 c1' c2 hnp hp hz0 hXS hTB hborn LB
    generalize p.1.nodes.length = tn at *
    generalize p.1.dim = d at *
    go_wp2_with fail
    (with_reducible refine (rU_any z _ hz18).mono ?_)
    rintro e w4 ⟨v4, rfl, o4, b4⟩
    have O4 := hH o4
    have B4 := hH (show Below wr.heap.size wr w4 from b4)
    have z4 := b4.size
    obtain ⟨a4, m4, c4, rfl⟩ := own_shape o4
    clear b4 o4
    go_wp2_with (at_builtin; go_must (refine appBW rfl _ _ rfl w2.heap.size (by rfl) (HO.out.below B4.out) (by rfl) (O4.out.ints (by omega)) (by omega) (by omega) ?_))
    intro v5 w5 o5 b5 g5 nb5
    have O5 := hH o5
    have B5 := hH (show Below w2.heap.size w2 w5 from (BR.out.trans (B4.out.mono hz)).trans b5)
    have z5 : w2.heap.size ≤ w5.heap.size := B5.out.size
    have e0 := ((B2.out.trans (B5.out.mono s2)).cell (p := ⟨b0, o0 + k * 3, none⟩) hb0).trans (((BRW.out.cell (p := ⟨b0, o0 + k * 3, none⟩) hb0).symm).trans e0)
    have e1 := ((B2.out.trans (B5.out.mono s2)).cell (p := ⟨b0, o0 + k * 3 + 1, none⟩) hb0).trans (((BRW.out.cell (p := ⟨b0, o0 + k * 3 + 1, none⟩) hb0).symm).trans e1)
    obtain ⟨a5, m5, c5, rfl⟩ := own_shape o5
    clear o5 b5 g5 nb5
    go_wp2_with fail
    (with_reducible refine (HRT.out _ (HT.out.below (B2.out.trans (B5.out.mono s2)))).mono ?_)
    rintro e w6 ⟨v6, rfl, o6, b6⟩
    have O6 := hH o6
    have B6 := hH (show Below w5.heap.size w5 w6 from b6)
    have z6 := b6.size
    obtain ⟨a6, m6, c6, rfl⟩ := own_shape o6
    clear b6 o6
    go_wp2_with (at_builtin; go_must (refine appBW rfl _ _ rfl w2.heap.size (by rfl) (O5.out.below B6.out) (by rfl) (O6.out.ints (by omega)) (by simp only [List.length_append]; omega) (by omega) ?_))
    intro v7 w7 o7 b7 g7 nb7
    have O7 := hH o7
    have B7 := hH (show Below w2.heap.size w2 w7 from (B5.out.trans (B6.out.mono z5)).trans b7)
    clear o7 b7 g7 nb7
    go_wp2_with fail
    go_roundw
    case rel => exact ⟨k + 1, by go_num, by omega, by rw [HTK.out, ← List.append_assoc, HXS.out]; simpa [List.append_assoc] using O7.out, B7.out⟩
    case measure => simp [intOf] <;> omega
   ·obtain rfl : k = n := by omega
    rw [List.take_of_length_le (by rw [HN.out]; omega)] at HO
    go_wp2_with fail
    go_ret
    exact ⟨_, rfl, by rw [HE.out]; exact OwnB.lower HO.out s2, BRW.out⟩

end Go.Proofs.YtgobbecpnjelmaaGreat
