/-
  StateI: Walk of copseref28.forest.
-/
import Derived.Test.YtgobbecpnjelmaaGreatKStateE
import Derived.Test.YtgobbecpnjelmaaGreatKForG
namespace Go.Proofs.YtgobbecpnjelmaaGreat
open Go.RowKit

set_option maxRecDepth 100000 in
set_option maxHeartbeats 8000000 in
theorem rforest28_any (c0 c1 c2 c3 c4 c5 c6 c7 c8 c9 c10 : Int) (count last seq : Int) (fa : Option Addr) (fn fc : Nat) (wv av : Value) (f : List (TreeP × Int)) (w : World) (h : GrownsR w (.slice fa fn fc) f) (hn : f.length = fn) :
  Calls Tryz.prog 37 #[.agg #[.int .i64 c0, .int .i64 c1, .int .i64 c2, .int .i64 c3, .int .i64 c4, .int .i64 c5, .int .i64 c6, .int .i64 c7, .int .i64 c8, .int .i64 c9, .int .i64 c10, .int .i64 count, .int .i64 last, .int .i64 seq, wv, .slice fa fn fc, av]] w fun e w' => e = .returned (.bool (treesG (birthsV (confB11 c0 c1 c2 c3 c4 c5 c6 c7 c8 c9 c10) c2 c3 c4 count).1 c0 c3 f)) ∧ Below w.heap.size w w' := by
 have hwn : fn ≤ 140737488351232 := by obtain ⟨_, _, e, _, _, h3, _⟩ := h; omega
 have HS := hH h
 have HL := hH hn
 have HB := hH (fun W => rbirths_any c0 c1 c2 c3 c4 c5 c6 c7 c8 c9 c10 count W)
 have HF := hH (fun W (hW : GrownsR W (.slice fa fn fc) f) => ris14_any _ f W hW)
 generalize birthsV (confB11 c0 c1 c2 c3 c4 c5 c6 c7 c8 c9 c10) c2 c3 c4 count = BV at *
 obtain ⟨births, E⟩ := BV
 dsimp only at HB ⊢
 obtain ⟨bl, hbl⟩ : ∃ bl, births.length = bl := ⟨_, rfl⟩
 have HBL := hH hbl
 have hfc : fn ≤ fc ∧ fc ≤ 9223372036854775807 := by obtain ⟨_, _, e, h1, h2, _⟩ := h; injection e with _ _ e; omega
 obtain ⟨f1, f2⟩ := hfc
 clear h hn hbl
 cases hR : isF f with
 | false =>
  have HW := hH (show treesG births c0 c3 f = false from by unfold treesG; rw [hR]; simp)
  rw [hR] at HF
  clear hR
  go_enter Tryz.func37, Tryz.ntmps37
  go_wp2_with fail
  (with_reducible refine (HB.out _).mono ?_); rintro e w1 ⟨v1, rfl, hi1, b1⟩; have s1 : w.heap.size + 1 ≤ w1.heap.size := sz b1; have B1 := hJ w b1; have c1_0 : w1.cell? ⟨w.heap.size, 15, none⟩ = some (.slice fa fn fc) := kC b1; obtain ⟨l1_0, n1_0, m1_0⟩ := lnm (show w.heap.size < w1.heap.size by omega); clear b1
  obtain ⟨ba, bc, rfl⟩ := hi1.shape
  rw [HBL.out] at hi1 ⊢
  clear hi1
  go_wp2_with fail
  (with_reducible refine (HF.out _ (HS.out.below (bx B1.out))).mono ?_); rintro e w2 ⟨rfl, b2⟩; have s2 : w1.heap.size ≤ w2.heap.size := sz b2; have B2 := bJ B1.out b2; clear b2
  go_wp2_with fail
  go_ret
  exact ⟨ret_bool HW.out.symm, bx B2.out⟩
 | true =>
  rw [hR] at HF
  have HIF := hH hR
  have HF2 := hH (fun W (hW : GrownsR W (.slice fa fn fc) f) => show Calls Tryz.prog 80 #[.slice fa fn fc] W fun e w' => e = .returned (.bool true) ∧ Below W.heap.size W w' ∧ Below W.heap.size W w' from (HF.out W hW).mono (fun _ _ h => ⟨h.1, h.2, h.2⟩))
  clear HF
  by_cases hlen : fn = bl
  ·have HW := hH (show treesG births c0 c3 f = bornF c0 c3 births f from by unfold treesG; rw [hR, decide_eq_true (show f.length = births.length from by rw [HL.out, HBL.out, hlen])]; rfl)
   clear hR
   subst hlen
   go_enter Tryz.func37, Tryz.ntmps37
   go_wp2_with fail
   (with_reducible refine (HB.out _).mono ?_); rintro e w1 ⟨v1, rfl, hi1, b1⟩; have s1 : w.heap.size + 1 ≤ w1.heap.size := sz b1; have B1 := hJ w b1; have c1_0 : w1.cell? ⟨w.heap.size, 0, none⟩ = some (.int .i64 c0) := kC b1; have c1_1 : w1.cell? ⟨w.heap.size, 3, none⟩ = some (.int .i64 c3) := kC b1; have c1_2 : w1.cell? ⟨w.heap.size, 15, none⟩ = some (.slice fa fn fc) := kC b1; obtain ⟨l1_0, n1_0, m1_0⟩ := lnm (show w.heap.size < w1.heap.size by omega); clear b1
   obtain ⟨ba, bc, rfl⟩ := hi1.shape
   rw [HBL.out] at hi1 ⊢
   have HBI := hH hi1
   clear hi1
   go_wp2_with fail
   (with_reducible refine (HF2.out _ (HS.out.below (bx B1.out))).mono ?_); rintro e w2 ⟨rfl, b2, bx2⟩; have s2 : w1.heap.size ≤ w2.heap.size := sz b2; have B2 := bJ B1.out b2; have c2_0 : w2.cell? ⟨w.heap.size, 0, none⟩ = some (.int .i64 c0) := kC b2; have c2_1 : w2.cell? ⟨w.heap.size, 3, none⟩ = some (.int .i64 c3) := kC b2; have c2_2 : w2.cell? ⟨w.heap.size, 15, none⟩ = some (.slice fa fn fc) := kC b2; obtain ⟨l2_0, n2_0, m2_0⟩ := lnm (show w.heap.size < w2.heap.size by omega); clear b2
   go_wp2_with fail
   go_loopw [5, 6] (fun iv _ wr => ∃ (k : Nat), iv = .int .i64 (k : Int) ∧ k ≤ fn ∧ bornF c0 c3 births f = bornF c0 c3 (births.drop k) (f.drop k) ∧ Below w.heap.size w wr ∧ Below w1.heap.size w1 wr ∧ w.heap.size < wr.heap.size ∧ wr.cell? ⟨w.heap.size, 0, none⟩ = some (.int .i64 c0) ∧ wr.cell? ⟨w.heap.size, 3, none⟩ = some (.int .i64 c3) ∧ wr.cell? ⟨w.heap.size, 15, none⟩ = some (.slice fa fn fc)) (fun iv _ _ => fn - (intOf iv).toNat)
   case atStart => exact ⟨0, rfl, Nat.zero_le _, rfl, bx B2.out, bx2, by first | omega | (simp; omega), by and_intros <;> go_simp⟩
   case round =>
    obtain ⟨k, rfl, hk, hst, hbi, hb1, hsz, k0, k3, k15⟩ := hrel
    rename World => wi
    have BI := hH hbi
    have BI1 := hH hb1
    by_cases hlt : k < fn
    ·obtain ⟨⟨⟨d, ns⟩, bo⟩, ht⟩ := getElem?_ex (l := f) (k := k) (by rw [HL.out]; exact hlt)
     obtain ⟨bi, hbi2⟩ := getElem?_ex (l := births) (k := k) (by rw [HBL.out]; exact hlt)
     obtain ⟨b, o, na, nc, e, hb, z0, z1, z2, _, hnr⟩ := growns_at (HS.out.below (show Below w.heap.size w wi from hbi)) ht
     subst e
     obtain ⟨bb, bo2, e, hbb, zb⟩ := (HBI.out.below hb1).at hbi2
     subst e
     dsimp only at z0 z1 z2 hnr
     have hlen1 : 1 ≤ ns.length := (treeB_true.1 (isF_at HIF.out ht).2.1).len.1
     obtain ⟨⟨nco, nat_, nle, nri, sz⟩, hn0⟩ := getElem?_ex (l := ns) (k := 0) hlen1
     obtain ⟨nb, no, e, hnb, zn⟩ := hnr.at hn0
     subst e
     have hrs : rootS ⟨d, ns⟩ = sz := by
      cases ns with
      | nil => simp at hn0
      | cons q qs => injection hn0 with e; subst e; rfl
     have hnl : ns.length ≤ 140737488351232 := by obtain ⟨_, _, _, _, _, h3, _⟩ := hnr; exact h3
     obtain ⟨nl, hnl2⟩ : ∃ nl, ns.length = nl := ⟨_, rfl⟩
     rw [hnl2] at z1 hlen1 hnl
     have zn' : wi.cell? ⟨nb, no + 4, none⟩ = some (.int .i64 sz) := by simpa using zn
     have HK := hH (show bornF c0 c3 births f = bornF c0 c3 (bi :: births.drop (k + 1)) ((⟨d, ns⟩, bo) :: f.drop (k + 1)) from by rw [hst, drop_atS hbi2, drop_atS ht])
     have HRS := hH hrs
     have i1 : (0 : Int) ≤ (k : Int) := by omega
     have i2 : (k : Int) < (fn : Int) := by omega
     have i3 : (0 : Int) < (nl : Int) := by omega
     have i4 : 0 < nl := by omega
     obtain ⟨lz1, lz2, lz3⟩ := lnm (show w.heap.size < wi.heap.size from hsz)
     obtain ⟨lb1, lb2, lb3⟩ := lnm (show bb < wi.heap.size from hbb)
     obtain ⟨ln1, ln2, ln3⟩ := lnm (show nb < wi.heap.size from hnb)
     obtain ⟨lf1, lf2, lf3⟩ := lnm (show b < wi.heap.size from hb)
     have HLT := hH hlt
     clear hbi hst ht hbi2 hnr hn0 zn hrs hnl2 hlt hb1
     by_cases h1 : bi = bo
     ·subst h1
      by_cases h2 : c0 = d
      ·subst h2
       by_cases h3 : c3 = sz
       ·subst h3
        have HGO := hH (bornF_go (dim := c0) (sample := c3) (B := births.drop (k + 1)) (G := f.drop (k + 1)) (b := bi) (g := (⟨c0, ns⟩, bi)) rfl rfl HRS.out.symm)
        go_wp2_with fail
        refine wp_region_held_drew (S := fun w' => w'.cell? ⟨wi.heap.size, 0, none⟩ = some (.int .i64 c0) ∧ w'.cell? ⟨wi.heap.size, 1, none⟩ = some (.slice (some ⟨nb, no, none⟩) nl nc) ∧ w'.cell? ⟨b, o + k * 3 + 2, none⟩ = some (.int .i64 bi) ∧ w'.cell? ⟨bb, bo2 + k, none⟩ = some (.int .i64 bi) ∧ w'.cell? ⟨nb, no + 4, none⟩ = some (.int .i64 c3) ∧ w'.cell? ⟨w.heap.size, 0, none⟩ = some (.int .i64 c0) ∧ w'.cell? ⟨w.heap.size, 3, none⟩ = some (.int .i64 c3) ∧ w'.cell? ⟨w.heap.size, 15, none⟩ = some (.slice (some ⟨b, o, none⟩) fn fc)) rJ kJ (fun hHeld => ?_); refine lJ 0 hHeld ?_; refine lJ 1 hHeld ?_; refine lJ 2 hHeld ?_; refine lJ 3 hHeld ?_; refine lJ 4 hHeld ?_; refine lJ 5 hHeld ?_; refine lJ 6 hHeld ?_; refine lJ 7 hHeld ?_; refine lJ 8 hHeld ?_; refine lJ 9 hHeld ?_; refine lJ 10 hHeld ?_; refine lJ 11 hHeld ?_; (first | refine lJ 12 hHeld ?_ | refine lS 12 rfl hHeld ?_); (first | refine lJ 13 hHeld ?_ | refine lS 13 rfl hHeld ?_); (first | refine lJ 14 hHeld ?_ | refine lS 14 rfl hHeld ?_); (first | refine lJ 15 hHeld ?_ | refine lS 15 rfl hHeld ?_); (first | refine lJ 16 hHeld ?_ | refine lS 16 rfl hHeld ?_); (first | refine lJ 17 hHeld ?_ | refine lS 17 rfl hHeld ?_); refine lJ 18 hHeld ?_; refine lJ 19 hHeld ?_; (first | refine lJ 20 hHeld ?_ | refine lS 20 rfl hHeld ?_); (first | refine lJ 21 hHeld ?_ | refine lS 21 rfl hHeld ?_); (first | refine lJ 22 hHeld ?_ | refine lS 22 rfl hHeld ?_); (first | refine lJ 23 hHeld ?_ | refine lS 23 rfl hHeld ?_); (first | refine lJ 24 hHeld ?_ | refine lS 24 rfl hHeld ?_); (first | refine lJ 25 hHeld ?_ | refine lS 25 rfl hHeld ?_); (first | refine lJ 26 hHeld ?_ | refine lS 26 rfl hHeld ?_); (first | refine lJ 27 hHeld ?_ | refine lS 27 rfl hHeld ?_); (first | refine lJ 28 hHeld ?_ | refine lS 28 rfl hHeld ?_); refine lJ 29 hHeld ?_; refine wpAnyH_done rJ ?_ _
        go_wp2_with fail
        go_roundw
        case rel => exact ⟨k + 1, by go_num, by have := HLT.out; omega, by rw [HK.out, HGO.out], bx BI.out, Bc BI1.out bw BI1.out.size, by first | omega | (simp; omega), by and_intros <;> go_simp⟩
        case measure => have := HLT.out; simp [intOf] <;> omega
       ·have HNO := hH (bornF_stop (dim := c0) (sample := c3) (B := births.drop (k + 1)) (G := f.drop (k + 1)) (b := bi) (g := (⟨c0, ns⟩, bi)) (.inr (.inr (by rw [HRS.out]; exact h3))))
        have j3 : (sz != c3) = true := by simp; exact fun e => h3 e.symm
        have j3' : ¬ sz = c3 := fun e => h3 e.symm
        clear h3
        go_wp2_with fail
        refine wp_region_held_drew (S := fun w' => w'.cell? ⟨wi.heap.size, 0, none⟩ = some (.int .i64 c0) ∧ w'.cell? ⟨wi.heap.size, 1, none⟩ = some (.slice (some ⟨nb, no, none⟩) nl nc) ∧ w'.cell? ⟨b, o + k * 3 + 2, none⟩ = some (.int .i64 bi) ∧ w'.cell? ⟨bb, bo2 + k, none⟩ = some (.int .i64 bi) ∧ w'.cell? ⟨nb, no + 4, none⟩ = some (.int .i64 sz) ∧ w'.cell? ⟨w.heap.size, 0, none⟩ = some (.int .i64 c0) ∧ w'.cell? ⟨w.heap.size, 3, none⟩ = some (.int .i64 c3) ∧ w'.cell? ⟨w.heap.size, 15, none⟩ = some (.slice (some ⟨b, o, none⟩) fn fc)) rJ kJ (fun hHeld => ?_); refine lJ 0 hHeld ?_; refine lJ 1 hHeld ?_; refine lJ 2 hHeld ?_; refine lJ 3 hHeld ?_; refine lJ 4 hHeld ?_; refine lJ 5 hHeld ?_; refine lJ 6 hHeld ?_; refine lJ 7 hHeld ?_; refine lJ 8 hHeld ?_; refine lJ 9 hHeld ?_; refine lJ 10 hHeld ?_; refine lJ 11 hHeld ?_; (first | refine lJ 12 hHeld ?_ | refine lS 12 rfl hHeld ?_); (first | refine lJ 13 hHeld ?_ | refine lS 13 rfl hHeld ?_); (first | refine lJ 14 hHeld ?_ | refine lS 14 rfl hHeld ?_); (first | refine lJ 15 hHeld ?_ | refine lS 15 rfl hHeld ?_); (first | refine lJ 16 hHeld ?_ | refine lS 16 rfl hHeld ?_); (first | refine lJ 17 hHeld ?_ | refine lS 17 rfl hHeld ?_); refine lJ 18 hHeld ?_; refine lJ 19 hHeld ?_; (first | refine lJ 20 hHeld ?_ | refine lS 20 rfl hHeld ?_); (first | refine lJ 21 hHeld ?_ | refine lS 21 rfl hHeld ?_); (first | refine lJ 22 hHeld ?_ | refine lS 22 rfl hHeld ?_); (first | refine lJ 23 hHeld ?_ | refine lS 23 rfl hHeld ?_); (first | refine lJ 24 hHeld ?_ | refine lS 24 rfl hHeld ?_); (first | refine lJ 25 hHeld ?_ | refine lS 25 rfl hHeld ?_); (first | refine lJ 26 hHeld ?_ | refine lS 26 rfl hHeld ?_); (first | refine lJ 27 hHeld ?_ | refine lS 27 rfl hHeld ?_); (first | refine lJ 28 hHeld ?_ | refine lS 28 rfl hHeld ?_); refine lJ 29 hHeld ?_; refine wpAnyH_done rJ ?_ _
        go_wp2_with fail
        go_ret
        exact ⟨ret_bool (by rw [HW.out, HK.out, HNO.out]), bx BI.out⟩
      ·have HNO := hH (bornF_stop (dim := c0) (sample := c3) (B := births.drop (k + 1)) (G := f.drop (k + 1)) (b := bi) (g := (⟨d, ns⟩, bi)) (.inr (.inl h2)))
       have j2 : (d != c0) = true := by simp; exact fun e => h2 e.symm
       have j2' : ¬ d = c0 := fun e => h2 e.symm
       clear h2
       go_wp2_with fail
       refine wp_region_held_drew (S := fun w' => w'.cell? ⟨wi.heap.size, 0, none⟩ = some (.int .i64 d) ∧ w'.cell? ⟨wi.heap.size, 1, none⟩ = some (.slice (some ⟨nb, no, none⟩) nl nc) ∧ w'.cell? ⟨b, o + k * 3 + 2, none⟩ = some (.int .i64 bi) ∧ w'.cell? ⟨bb, bo2 + k, none⟩ = some (.int .i64 bi) ∧ w'.cell? ⟨nb, no + 4, none⟩ = some (.int .i64 sz) ∧ w'.cell? ⟨w.heap.size, 0, none⟩ = some (.int .i64 c0) ∧ w'.cell? ⟨w.heap.size, 3, none⟩ = some (.int .i64 c3) ∧ w'.cell? ⟨w.heap.size, 15, none⟩ = some (.slice (some ⟨b, o, none⟩) fn fc)) rJ kJ (fun hHeld => ?_); refine lJ 0 hHeld ?_; refine lJ 1 hHeld ?_; refine lJ 2 hHeld ?_; refine lJ 3 hHeld ?_; refine lJ 4 hHeld ?_; refine lJ 5 hHeld ?_; refine lJ 6 hHeld ?_; refine lJ 7 hHeld ?_; refine lJ 8 hHeld ?_; refine lJ 9 hHeld ?_; refine lJ 10 hHeld ?_; refine lJ 11 hHeld ?_; (first | refine lJ 12 hHeld ?_ | refine lS 12 rfl hHeld ?_); (first | refine lJ 13 hHeld ?_ | refine lS 13 rfl hHeld ?_); (first | refine lJ 14 hHeld ?_ | refine lS 14 rfl hHeld ?_); (first | refine lJ 15 hHeld ?_ | refine lS 15 rfl hHeld ?_); (first | refine lJ 16 hHeld ?_ | refine lS 16 rfl hHeld ?_); (first | refine lJ 17 hHeld ?_ | refine lS 17 rfl hHeld ?_); refine lJ 18 hHeld ?_; refine lJ 19 hHeld ?_; (first | refine lJ 20 hHeld ?_ | refine lS 20 rfl hHeld ?_); (first | refine lJ 21 hHeld ?_ | refine lS 21 rfl hHeld ?_); (first | refine lJ 22 hHeld ?_ | refine lS 22 rfl hHeld ?_); (first | refine lJ 23 hHeld ?_ | refine lS 23 rfl hHeld ?_); (first | refine lJ 24 hHeld ?_ | refine lS 24 rfl hHeld ?_); (first | refine lJ 25 hHeld ?_ | refine lS 25 rfl hHeld ?_); (first | refine lJ 26 hHeld ?_ | refine lS 26 rfl hHeld ?_); (first | refine lJ 27 hHeld ?_ | refine lS 27 rfl hHeld ?_); (first | refine lJ 28 hHeld ?_ | refine lS 28 rfl hHeld ?_); refine lJ 29 hHeld ?_; refine wpAnyH_done rJ ?_ _
       go_wp2_with fail
       go_ret
       exact ⟨ret_bool (by rw [HW.out, HK.out, HNO.out]), bx BI.out⟩
     ·have HNO := hH (bornF_stop (dim := c0) (sample := c3) (B := births.drop (k + 1)) (G := f.drop (k + 1)) (b := bi) (g := (⟨d, ns⟩, bo)) (.inl h1))
      have j1 : (bo != bi) = true := by simp; exact fun e => h1 e.symm
      have j1' : ¬ bo = bi := fun e => h1 e.symm
      clear h1
      go_wp2_with fail
      refine wp_region_held_drew (S := fun w' => w'.cell? ⟨wi.heap.size, 0, none⟩ = some (.int .i64 d) ∧ w'.cell? ⟨wi.heap.size, 1, none⟩ = some (.slice (some ⟨nb, no, none⟩) nl nc) ∧ w'.cell? ⟨b, o + k * 3 + 2, none⟩ = some (.int .i64 bo) ∧ w'.cell? ⟨bb, bo2 + k, none⟩ = some (.int .i64 bi) ∧ w'.cell? ⟨nb, no + 4, none⟩ = some (.int .i64 sz) ∧ w'.cell? ⟨w.heap.size, 0, none⟩ = some (.int .i64 c0) ∧ w'.cell? ⟨w.heap.size, 3, none⟩ = some (.int .i64 c3) ∧ w'.cell? ⟨w.heap.size, 15, none⟩ = some (.slice (some ⟨b, o, none⟩) fn fc)) rJ kJ (fun hHeld => ?_); refine lJ 0 hHeld ?_; refine lJ 1 hHeld ?_; refine lJ 2 hHeld ?_; refine lJ 3 hHeld ?_; refine lJ 4 hHeld ?_; refine lJ 5 hHeld ?_; refine lJ 6 hHeld ?_; refine lJ 7 hHeld ?_; refine lJ 8 hHeld ?_; refine lJ 9 hHeld ?_; refine lJ 10 hHeld ?_; refine lJ 11 hHeld ?_; (first | refine lJ 12 hHeld ?_ | refine lS 12 rfl hHeld ?_); (first | refine lJ 13 hHeld ?_ | refine lS 13 rfl hHeld ?_); (first | refine lJ 14 hHeld ?_ | refine lS 14 rfl hHeld ?_); (first | refine lJ 15 hHeld ?_ | refine lS 15 rfl hHeld ?_); (first | refine lJ 16 hHeld ?_ | refine lS 16 rfl hHeld ?_); (first | refine lJ 17 hHeld ?_ | refine lS 17 rfl hHeld ?_); refine lJ 18 hHeld ?_; refine lJ 19 hHeld ?_; (first | refine lJ 20 hHeld ?_ | refine lS 20 rfl hHeld ?_); (first | refine lJ 21 hHeld ?_ | refine lS 21 rfl hHeld ?_); (first | refine lJ 22 hHeld ?_ | refine lS 22 rfl hHeld ?_); (first | refine lJ 23 hHeld ?_ | refine lS 23 rfl hHeld ?_); (first | refine lJ 24 hHeld ?_ | refine lS 24 rfl hHeld ?_); (first | refine lJ 25 hHeld ?_ | refine lS 25 rfl hHeld ?_); (first | refine lJ 26 hHeld ?_ | refine lS 26 rfl hHeld ?_); (first | refine lJ 27 hHeld ?_ | refine lS 27 rfl hHeld ?_); (first | refine lJ 28 hHeld ?_ | refine lS 28 rfl hHeld ?_); refine lJ 29 hHeld ?_; refine wpAnyH_done rJ ?_ _
      go_wp2_with fail
      go_ret
      exact ⟨ret_bool (by rw [HW.out, HK.out, HNO.out]), bx BI.out⟩
    ·obtain rfl : k = fn := by omega
     have HE := hH (show bornF c0 c3 births f = true from by rw [hst, List.drop_eq_nil_of_le (by have := HBL.out; omega), List.drop_eq_nil_of_le (by have := HL.out; omega)]; rfl)
     clear hbi hst hlt
     go_wp2_with fail
     go_ret
     exact ⟨ret_bool (by rw [HW.out, HE.out]), bx BI.out⟩
  ·have HW := hH (show treesG births c0 c3 f = false from by unfold treesG; rw [decide_eq_false (show ¬ f.length = births.length from by rw [HL.out, HBL.out]; exact hlen)]; simp)
   have jl : ((fn : Int) != (bl : Int)) = true := by simp; omega
   have jl2 : ¬ (fn : Int) = (bl : Int) := by omega
   clear hlen hR
   go_enter Tryz.func37, Tryz.ntmps37
   go_wp2_with fail
   (with_reducible refine (HB.out _).mono ?_); rintro e w1 ⟨v1, rfl, hi1, b1⟩; have s1 : w.heap.size + 1 ≤ w1.heap.size := sz b1; have B1 := hJ w b1; have c1_0 : w1.cell? ⟨w.heap.size, 15, none⟩ = some (.slice fa fn fc) := kC b1; obtain ⟨l1_0, n1_0, m1_0⟩ := lnm (show w.heap.size < w1.heap.size by omega); clear b1
   obtain ⟨ba, bc, rfl⟩ := hi1.shape
   rw [HBL.out] at hi1 ⊢
   clear hi1
   go_wp2_with fail
   (with_reducible refine (HF2.out _ (HS.out.below (bx B1.out))).mono ?_); rintro e w2 ⟨rfl, b2, bx2⟩; have s2 : w1.heap.size ≤ w2.heap.size := sz b2; have B2 := bJ B1.out b2; have c2_0 : w2.cell? ⟨w.heap.size, 15, none⟩ = some (.slice fa fn fc) := kC b2; obtain ⟨l2_0, n2_0, m2_0⟩ := lnm (show w.heap.size < w2.heap.size by omega); clear b2
   go_wp2_with fail
   go_ret
   exact ⟨ret_bool HW.out.symm, bx B2.out⟩
end Go.Proofs.YtgobbecpnjelmaaGreat
