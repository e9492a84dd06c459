/-
  ForT: Walks of forest.Same and copseref14.Same.
-/
import Derived.Test.YtgobbecpnjelmaaGreatKForE
import Derived.Test.YtgobbecpnjelmaaGreatJ2a
namespace Go.Proofs.YtgobbecpnjelmaaGreat
open Go.RowKit

theorem sameT_eq {a b : TreeP} : sameT a b = true ↔ a = b := by
 obtain ⟨d, n⟩ := a
 obtain ⟨d', n'⟩ := b
 unfold sameT
 simp

theorem sameG_eq {a b : TreeP × Int} : sameG a b = true ↔ a = b := by
 obtain ⟨t, z⟩ := a
 obtain ⟨t', z'⟩ := b
 unfold sameG
 rw [Bool.and_eq_true, decide_eq_true_eq, sameT_eq]
 simp only [Prod.mk.injEq]
 exact ⟨fun h => ⟨h.2, h.1⟩, fun h => ⟨h.2, h.1⟩⟩

noncomputable def sameF (a b : List (TreeP × Int)) : Bool := @decide (a = b) (Classical.propDecidable _)

theorem sameF_eq {a b : List (TreeP × Int)} : sameF a b = true ↔ a = b := by unfold sameF; simp

theorem sameF_no {a b : List (TreeP × Int)} {k : Nat} {p q : TreeP × Int} (ha : a[k]? = some p) (hb : b[k]? = some q) (h : sameG p q = false) : sameF a b = false := by
 cases hs : sameF a b with
 | false => rfl
 | true =>
  rw [sameF_eq] at hs
  rw [hs, hb] at ha
  injection ha with ha
  rw [sameG_eq.2 ha.symm] at h
  cases h

set_option maxRecDepth 100000 in
set_option maxHeartbeats 8000000 in
theorem rsame14_any (v v2 : Value) (f g : List (TreeP × Int)) (w : World) (h : GrownsR w v f) (h2 : GrownsR w v2 g) :
  Calls Tryz.prog 44 #[v, v2] w fun e w' => e = .returned (.bool (sameF f g)) ∧ Below w.heap.size w w' := by
 have HG := hH h
 have HG2 := hH h2
 obtain ⟨ad, cc, rfl, _, _, q3, _⟩ := h
 obtain ⟨ad2, cc2, rfl, _, _, q4, _⟩ := h2
 obtain ⟨SV, hSV⟩ : ∃ B, sameF f g = B := ⟨_, rfl⟩
 rw [hSV]
 have HSV := hH hSV
 obtain ⟨n, hn⟩ : ∃ n, f.length = n := ⟨_, rfl⟩
 obtain ⟨m, hm⟩ : ∃ n, g.length = n := ⟨_, rfl⟩
 rw [hn] at HG q3 ⊢
 rw [hm] at HG2 q4 ⊢
 have HN := hH hn
 have HM := hH hm
 by_cases hnm : n = m
 ·subst hnm
  have j2 : ((n : Int) != (n : Int)) = false := by simp
  clear hSV hn hm
  go_enter Tryz.func44, Tryz.ntmps44
  go_wp2_with fail
  go_loopw [5] (fun idx wr => ∃ k : Nat, idx = .int .i64 k ∧ k ≤ n ∧ (∀ (j : Nat) (p q : TreeP × Int), j < k → f[j]? = some p → g[j]? = some q → p = q) ∧ Below w.heap.size w wr) (fun idx _ => n - (intOf idx).toNat)
  case atStart => exact ⟨0, rfl, by omega, fun j p q h => by omega, Below.refl _ _⟩
  case round =>
   obtain ⟨k, rfl, hk, hall, hbr⟩ := hrel
   have HA := hH hall
   have BR := hH hbr
   have hz := hbr.size
   clear hall
   by_cases hlt : k < n
   ·obtain ⟨p, hp⟩ := getElem?_ex (l := f) (k := k) (by rw [HN.out]; exact hlt)
    obtain ⟨q, hq⟩ := getElem?_ex (l := g) (k := k) (by rw [HM.out]; exact hlt)
    obtain ⟨b, o, na, nc, rfl, hb, c0, c1, c2, _, hnp⟩ := growns_at HG.out hp
    obtain ⟨b2, o2, na2, nc2, rfl, hb2, d0, d1, d2', _, hnq⟩ := growns_at HG2.out hq
    have e0 := (hbr.cell (p := ⟨b, o + k * 3, none⟩) hb).trans c0
    have e1 := (hbr.cell (p := ⟨b, o + k * 3 + 1, none⟩) hb).trans c1
    have e2 := (hbr.cell (p := ⟨b, o + k * 3 + 2, none⟩) hb).trans c2
    have x0 := (hbr.cell (p := ⟨b2, o2 + k * 3, none⟩) hb2).trans d0
    have x1 := (hbr.cell (p := ⟨b2, o2 + k * 3 + 1, none⟩) hb2).trans d1
    have x2 := (hbr.cell (p := ⟨b2, o2 + k * 3 + 2, none⟩) hb2).trans d2'
    have HT := hH (show TreeR w (.agg #[.int .i64 p.1.dim, .slice na p.1.nodes.length nc]) p.1 from ⟨_, rfl, hnp⟩)
    have HT2 := hH (show TreeR w (.agg #[.int .i64 q.1.dim, .slice na2 q.1.nodes.length nc2]) q.1 from ⟨_, rfl, hnq⟩)
    have HTS := hH (fun W (hW : Below wr.heap.size wr W) => r10same_any _ _ p.1 q.1 W (HT.out.below (BR.out.trans (hW.mono hz))) (HT2.out.below (BR.out.trans (hW.mono hz))))
    have HNE := hH (show sameG p q = false → SV = false from fun h => by rw [← HSV.out]; exact sameF_no hp hq h)
    have HEQ := hH (show sameG p q = true → ∀ (j : Nat) (p' q' : TreeP × Int), j < k + 1 → f[j]? = some p' → g[j]? = some q' → p' = q' from fun h j p' q' hj h1 h2 => by
     rcases Nat.lt_or_ge j k with h3 | h3
     ·exact HA.out j p' q' h3 h1 h2
     ·obtain rfl : j = k := by omega
      rw [hp] at h1
      rw [hq] at h2
      injection h1 with h1
      injection h2 with h2
      rw [← h1, ← h2]
      exact sameG_eq.1 h)
    have hbz : b < wr.heap.size := by omega
    have hbz2 : b2 < wr.heap.size := by omega
    have hby : b ≠ wr.heap.size := by omega
    have hby2 : b2 ≠ wr.heap.size := by omega
    have i1 : (0 : Int) ≤ (k : Int) := by omega
    have i2 : (k : Int) < (n : Int) := by omega
    have HSG := hH (show sameG p q = (decide (p.2 = q.2) && sameT p.1 q.1) from rfl)
    clear c0 c1 c2 d0 d1 d2' hp hq hnp hnq HA hbr
    generalize sameG p q = SG at *
    generalize sameT p.1 q.1 = ST at *
    generalize p.1.nodes.length = tn at *
    generalize p.1.dim = d at *
    generalize q.1.nodes.length = tn2 at *
    generalize q.1.dim = d2 at *
    generalize p.2 = z at *
    generalize q.2 = z2 at *
    by_cases hzz : z = z2
    ·subst hzz
     have jz : (z != z) = false := by simp
     have HSG2 := hH (show SG = ST by rw [HSG.out]; simp)
     cases ST with
     | true =>
      have HE := hH (HEQ.out HSG2.out)
      clear HNE HEQ HSG
      go_upto_region 6 with fail
      refine wp_region_held_drew (S := fun w' => w'.cell? ⟨b, o + k * 3, none⟩ = some (.int .i64 d) ∧ w'.cell? ⟨b, o + k * 3 + 1, none⟩ = some (.slice na tn nc) ∧ w'.cell? ⟨b, o + k * 3 + 2, none⟩ = some (.int .i64 z) ∧ w'.cell? ⟨b2, o2 + k * 3, none⟩ = some (.int .i64 d2) ∧ w'.cell? ⟨b2, o2 + k * 3 + 1, none⟩ = some (.slice na2 tn2 nc2) ∧ w'.cell? ⟨b2, o2 + k * 3 + 2, none⟩ = some (.int .i64 z)) rJ kJ (fun hHeld => ?_); refine lJ 0 hHeld ?_; refine lJ 1 hHeld ?_; refine lJ 2 hHeld ?_; refine lJ 3 hHeld ?_; refine lJ 4 hHeld ?_; refine lJ 5 hHeld ?_; refine lJ 6 hHeld ?_; refine lJ 7 hHeld ?_; refine lJ 8 hHeld ?_; refine lJ 9 hHeld ?_; refine lJ 10 hHeld ?_; refine lJ 11 hHeld ?_; (first | refine lJ 12 hHeld ?_ | refine lS 12 rfl hHeld ?_); (first | refine lJ 13 hHeld ?_ | refine lS 13 rfl hHeld ?_); (first | refine lJ 14 hHeld ?_ | refine lS 14 rfl hHeld ?_); (first | refine lJ 15 hHeld ?_ | refine lS 15 rfl hHeld ?_); (first | refine lJ 16 hHeld ?_ | refine lS 16 rfl hHeld ?_); (first | refine lJ 17 hHeld ?_ | refine lS 17 rfl hHeld ?_); (first | refine lJ 18 hHeld ?_ | refine lS 18 rfl hHeld ?_); (first | refine lJ 19 hHeld ?_ | refine lS 19 rfl hHeld ?_); (first | refine lJ 20 hHeld ?_ | refine lS 20 rfl hHeld ?_); (first | refine lJ 21 hHeld ?_ | refine lS 21 rfl hHeld ?_); refine lexHv 22 rfl ?_ rJ; (intro K hK); (go_simp; (go_at_call 85); ((with_reducible refine (HTS.out _ bw).mono ?_)); (rintro e w4 ⟨rfl, b4⟩); (have B4 := hH (show Below wr.heap.size wr w4 from below_tr bw (b4.mono mJ))); (have y0 : w4.cell? ⟨b, o + k * 3, none⟩ = some (.int .i64 d) := (b4.cell mJ).trans (by go_simp)); (have y1 : w4.cell? ⟨b, o + k * 3 + 1, none⟩ = some (.slice na tn nc) := (b4.cell mJ).trans (by go_simp)); (have y2 : w4.cell? ⟨b, o + k * 3 + 2, none⟩ = some (.int .i64 z) := (b4.cell mJ).trans (by go_simp)); (have y3 : w4.cell? ⟨b2, o2 + k * 3, none⟩ = some (.int .i64 d2) := (b4.cell mJ).trans (by go_simp)); (have y4 : w4.cell? ⟨b2, o2 + k * 3 + 1, none⟩ = some (.slice na2 tn2 nc2) := (b4.cell mJ).trans (by go_simp)); (have y5 : w4.cell? ⟨b2, o2 + k * 3 + 2, none⟩ = some (.int .i64 z) := (b4.cell mJ).trans (by go_simp)); (clear b4); (try go_wp2_with fail)); clear hHeld; refine pJ hK fun hHeld => ?_; clear hK K; (first | refine lJ 23 hHeld ?_ | refine lS 23 rfl hHeld ?_); refine lJ 24 hHeld ?_; refine wpAnyH_done rJ ?_ _
      all_goals
       go_wp2_with fail
       go_roundw
       case rel => exact ⟨k + 1, by go_num, by omega, HE.out, BR.out.trans (B4.out.mono hz)⟩
       case measure => simp [intOf] <;> omega
     | false =>
      have HF := hH (HNE.out HSG2.out)
      clear HNE HEQ HSG
      go_upto_region 6 with fail
      refine wp_region_held_drew (S := fun w' => w'.cell? ⟨b, o + k * 3, none⟩ = some (.int .i64 d) ∧ w'.cell? ⟨b, o + k * 3 + 1, none⟩ = some (.slice na tn nc) ∧ w'.cell? ⟨b, o + k * 3 + 2, none⟩ = some (.int .i64 z) ∧ w'.cell? ⟨b2, o2 + k * 3, none⟩ = some (.int .i64 d2) ∧ w'.cell? ⟨b2, o2 + k * 3 + 1, none⟩ = some (.slice na2 tn2 nc2) ∧ w'.cell? ⟨b2, o2 + k * 3 + 2, none⟩ = some (.int .i64 z)) rJ kJ (fun hHeld => ?_); refine lJ 0 hHeld ?_; refine lJ 1 hHeld ?_; refine lJ 2 hHeld ?_; refine lJ 3 hHeld ?_; refine lJ 4 hHeld ?_; refine lJ 5 hHeld ?_; refine lJ 6 hHeld ?_; refine lJ 7 hHeld ?_; refine lJ 8 hHeld ?_; refine lJ 9 hHeld ?_; refine lJ 10 hHeld ?_; refine lJ 11 hHeld ?_; (first | refine lJ 12 hHeld ?_ | refine lS 12 rfl hHeld ?_); (first | refine lJ 13 hHeld ?_ | refine lS 13 rfl hHeld ?_); (first | refine lJ 14 hHeld ?_ | refine lS 14 rfl hHeld ?_); (first | refine lJ 15 hHeld ?_ | refine lS 15 rfl hHeld ?_); (first | refine lJ 16 hHeld ?_ | refine lS 16 rfl hHeld ?_); (first | refine lJ 17 hHeld ?_ | refine lS 17 rfl hHeld ?_); (first | refine lJ 18 hHeld ?_ | refine lS 18 rfl hHeld ?_); (first | refine lJ 19 hHeld ?_ | refine lS 19 rfl hHeld ?_); (first | refine lJ 20 hHeld ?_ | refine lS 20 rfl hHeld ?_); (first | refine lJ 21 hHeld ?_ | refine lS 21 rfl hHeld ?_); refine lexHv 22 rfl ?_ rJ; (intro K hK); (go_simp; (go_at_call 85); ((with_reducible refine (HTS.out _ bw).mono ?_)); (rintro e w4 ⟨rfl, b4⟩); (have B4 := hH (show Below wr.heap.size wr w4 from below_tr bw (b4.mono mJ))); (have y0 : w4.cell? ⟨b, o + k * 3, none⟩ = some (.int .i64 d) := (b4.cell mJ).trans (by go_simp)); (have y1 : w4.cell? ⟨b, o + k * 3 + 1, none⟩ = some (.slice na tn nc) := (b4.cell mJ).trans (by go_simp)); (have y2 : w4.cell? ⟨b, o + k * 3 + 2, none⟩ = some (.int .i64 z) := (b4.cell mJ).trans (by go_simp)); (have y3 : w4.cell? ⟨b2, o2 + k * 3, none⟩ = some (.int .i64 d2) := (b4.cell mJ).trans (by go_simp)); (have y4 : w4.cell? ⟨b2, o2 + k * 3 + 1, none⟩ = some (.slice na2 tn2 nc2) := (b4.cell mJ).trans (by go_simp)); (have y5 : w4.cell? ⟨b2, o2 + k * 3 + 2, none⟩ = some (.int .i64 z) := (b4.cell mJ).trans (by go_simp)); (clear b4); (try go_wp2_with fail)); clear hHeld; refine pJ hK fun hHeld => ?_; clear hK K; (first | refine lJ 23 hHeld ?_ | refine lS 23 rfl hHeld ?_); refine lJ 24 hHeld ?_; refine wpAnyH_done rJ ?_ _
      all_goals
       go_wp2_with fail
       go_ret
       exact ⟨by rw [HF.out]; rfl, BR.out.trans (B4.out.mono hz)⟩
    ·have jz : (z != z2) = true := by simp [hzz]
     have HF := hH (HNE.out (by rw [HSG.out]; simp [hzz]))
     clear HNE HEQ HSG hzz
     go_upto_region 6 with fail
     refine wp_region_held_drew (S := fun w' => w'.cell? ⟨b, o + k * 3, none⟩ = some (.int .i64 d) ∧ w'.cell? ⟨b, o + k * 3 + 1, none⟩ = some (.slice na tn nc) ∧ w'.cell? ⟨b, o + k * 3 + 2, none⟩ = some (.int .i64 z) ∧ w'.cell? ⟨b2, o2 + k * 3, none⟩ = some (.int .i64 d2) ∧ w'.cell? ⟨b2, o2 + k * 3 + 1, none⟩ = some (.slice na2 tn2 nc2) ∧ w'.cell? ⟨b2, o2 + k * 3 + 2, none⟩ = some (.int .i64 z2)) rJ kJ (fun hHeld => ?_); refine lJ 0 hHeld ?_; refine lJ 1 hHeld ?_; refine lJ 2 hHeld ?_; refine lJ 3 hHeld ?_; refine lJ 4 hHeld ?_; refine lJ 5 hHeld ?_; refine lJ 6 hHeld ?_; refine lJ 7 hHeld ?_; refine lJ 8 hHeld ?_; refine lJ 9 hHeld ?_; refine lJ 10 hHeld ?_; refine lJ 11 hHeld ?_; (first | refine lJ 12 hHeld ?_ | refine lS 12 rfl hHeld ?_); (first | refine lJ 13 hHeld ?_ | refine lS 13 rfl hHeld ?_); (first | refine lJ 14 hHeld ?_ | refine lS 14 rfl hHeld ?_); (first | refine lJ 15 hHeld ?_ | refine lS 15 rfl hHeld ?_); (first | refine lJ 16 hHeld ?_ | refine lS 16 rfl hHeld ?_); (first | refine lJ 17 hHeld ?_ | refine lS 17 rfl hHeld ?_); (first | refine lJ 18 hHeld ?_ | refine lS 18 rfl hHeld ?_); (first | refine lJ 19 hHeld ?_ | refine lS 19 rfl hHeld ?_); (first | refine lJ 20 hHeld ?_ | refine lS 20 rfl hHeld ?_); (first | refine lJ 21 hHeld ?_ | refine lS 21 rfl hHeld ?_); refine lS 22 rfl hHeld ?_; (first | refine lJ 23 hHeld ?_ | refine lS 23 rfl hHeld ?_); refine lJ 24 hHeld ?_; refine wpAnyH_done rJ ?_ _
     all_goals
      go_wp2_with fail
      go_ret
      exact ⟨by rw [HF.out]; rfl, bx BR.out⟩
   ·obtain rfl : k = n := by omega
    have HE := hH (show SV = true by
     rw [← HSV.out, sameF_eq]
     apply List.ext_getElem?
     intro j
     rcases hx : f[j]? with _ | p
     ·rw [eq_comm, List.getElem?_eq_none_iff, HM.out]
      rw [List.getElem?_eq_none_iff, HN.out] at hx
      exact hx
     ·have hjl := (List.getElem?_eq_some_iff.1 hx).1
      obtain ⟨q, hq⟩ := getElem?_ex (l := g) (k := j) (by rw [HM.out, ← HN.out]; exact hjl)
      rw [hq, HA.out j p q (by rw [HN.out] at hjl; exact hjl) hx hq])
    go_wp2_with fail
    go_ret
    exact ⟨by rw [HE.out]; rfl, BR.out⟩
 ·have HF := hH (show SV = false by
   rw [← hSV]
   cases hs : sameF f g with
   | false => rfl
   | true => rw [sameF_eq] at hs; exact absurd (by rw [← hn, ← hm, hs]) hnm)
  have j2 : ((n : Int) != (m : Int)) = true := by simp; omega
  clear hSV hn hm hnm
  go_enter Tryz.func44, Tryz.ntmps44
  go_wp2_with fail
  go_ret
  exact ⟨by rw [HF.out]; rfl, bw⟩

end Go.Proofs.YtgobbecpnjelmaaGreat
