/-
  SameU: Walk of copseref10.Same.
-/
import Derived.Test.YtgobbecpnjelmaaGreatJ1a
import Derived.Test.YtgobbecpnjelmaaGreatJ0b
namespace Go.Proofs.YtgobbecpnjelmaaGreat
open Go.RowKit

theorem sameT_no {a b : TreeP} {k : Nat} {x y : NodeP} (ha : a.nodes[k]? = some x) (hb : b.nodes[k]? = some y) (h : sameN x y = false) : sameT a b = false := by
 unfold sameT
 have : ¬ a.nodes = b.nodes := fun e => by
  rw [e, hb] at ha
  injection ha with ha
  rw [sameN_eq.2 ha.symm] at h
  cases h
 simp [this]

set_option maxRecDepth 100000 in
set_option maxHeartbeats 8000000 in
theorem r10same_any (v v2 : Value) (s t : TreeP) (w : World) (h : TreeR w v s) (h2 : TreeR w v2 t) :
  Calls Tryz.prog 85 #[v, v2] w fun e w' => e = .returned (.bool (sameT s t)) ∧ Below w.heap.size w w' := by
 have HS := hH h
 have HT := hH h2
 obtain ⟨tv, rfl, ad, cc, rfl, _, _, q3, hcell⟩ := h
 obtain ⟨tv2, rfl, ad2, cc2, rfl, _, _, q4, hcell2⟩ := h2
 obtain ⟨SV, hSV⟩ : ∃ B, sameT s t = B := ⟨_, rfl⟩
 rw [hSV]
 have HSV := hH hSV
 obtain ⟨n, hn⟩ : ∃ n, s.nodes.length = n := ⟨_, rfl⟩
 obtain ⟨m, hm⟩ : ∃ n, t.nodes.length = n := ⟨_, rfl⟩
 obtain ⟨d, hd⟩ : ∃ n, s.dim = n := ⟨_, rfl⟩
 obtain ⟨d2, hd2⟩ : ∃ n, t.dim = n := ⟨_, rfl⟩
 rw [hn] at HS q3 ⊢
 rw [hm] at HT q4 ⊢
 rw [hd] at HS ⊢
 rw [hd2] at HT ⊢
 have HN := hH hn
 have HM := hH hm
 by_cases hdd : d = d2
 ·subst hdd
  have j1 : (d != d) = false := by simp
  by_cases hnm : n = m
  ·subst hnm
   have j2 : ((n : Int) != (n : Int)) = false := by simp
   have HC := hH hcell
   have HC2 := hH hcell2
   have HDD := hH (show s.dim = t.dim by rw [hd, hd2])
   clear hcell hcell2 hSV hn hm hd hd2
   go_enter Tryz.func85, Tryz.ntmps85
   go_wp2_with fail
   obtain ⟨U0, hU0⟩ : ∃ U, (w.alloc (.cells #[.int .i64 d, .slice ad n cc] 106)).alloc (.cells #[.int .i64 d, .slice ad2 n cc2] 106) = U := ⟨_, rfl⟩
   have B0 := hH (show Below w.heap.size w U0 from by rw [← hU0]; (repeat (first | with_reducible exact Below.refl _ _ | with_reducible refine Bs ?_ | with_reducible refine Ba ?_ | with_reducible refine Bd ?_ | with_reducible refine Bn ?_)))
   have hz0 : U0.heap.size = w.heap.size + 1 + 1 := by rw [← hU0]; simp
   have e1 : U0.cell? ⟨w.heap.size, 1, none⟩ = some (.slice ad n cc) := by subst hU0; go_simp
   have e2 : U0.cell? ⟨w.heap.size + 1, 1, none⟩ = some (.slice ad2 n cc2) := by subst hU0; go_simp
   rw [hU0]
   have E1 := hH e1
   have E2 := hH e2
   have HZ0 := hH hz0
   clear hU0 j1 j2 e1 e2 hz0
   go_loopw [5, 6, 7] (fun i _ _ wr => ∃ k : Nat, i = .int .i64 k ∧ k ≤ n ∧ (∀ j x y, j < k → s.nodes[j]? = some x → t.nodes[j]? = some y → x = y) ∧ Below U0.heap.size U0 wr) (fun i _ _ _ => n - (intOf i).toNat)
   case atStart => exact ⟨0, rfl, by omega, fun j x y h => by omega, Below.refl _ _⟩
   case round =>
    obtain ⟨k, rfl, hk, hall, hbr⟩ := hrel
    have HA := hH hall
    have BR := hH (show Below w.heap.size w wr from B0.out.trans (hbr.mono (by rw [HZ0.out]; omega)))
    have hsz : w.heap.size + 1 + 1 ≤ wr.heap.size := by rw [← HZ0.out]; exact hbr.size
    have e1 : wr.cell? ⟨w.heap.size, 1, none⟩ = some (.slice ad n cc) := (hbr.cell (p := ⟨w.heap.size, 1, none⟩) (by rw [HZ0.out]; show w.heap.size < _; omega)).trans E1.out
    have e2 : wr.cell? ⟨w.heap.size + 1, 1, none⟩ = some (.slice ad2 n cc2) := (hbr.cell (p := ⟨w.heap.size + 1, 1, none⟩) (by rw [HZ0.out]; show w.heap.size + 1 < _; omega)).trans E2.out
    have hT1 : w.heap.size < wr.heap.size := by omega
    have hT2 : w.heap.size + 1 < wr.heap.size := by omega
    have BR2 := hH hbr
    clear hall hbr
    by_cases hlt : k < n
    ·obtain ⟨x, hx⟩ := getElem?_ex (l := s.nodes) (k := k) (by rw [HN.out]; exact hlt)
     obtain ⟨y, hy⟩ := getElem?_ex (l := t.nodes) (k := k) (by rw [HM.out]; exact hlt)
     obtain ⟨b, o, rfl, hb, hnx⟩ := HC.out k x hx
     obtain ⟨b2, o2, rfl, hb2, hny⟩ := HC2.out k y hy
     have hnx := hnx.below hb (Below.mono BR.out (Nat.le_refl _))
     have hny := hny.below hb2 (Below.mono BR.out (Nat.le_refl _))
     obtain ⟨ca, cac, hci, x0, x1, x2, x3, x4⟩ := hnx.val
     obtain ⟨da, dac, hdi, y0, y1, y2, y3, y4⟩ := hny.val
     have HNE := hH (show sameN x y = false → sameT s t = false from sameT_no hx hy)
     have HEQ := hH (show sameN x y = true → ∀ j x' y', j < k + 1 → s.nodes[j]? = some x' → t.nodes[j]? = some y' → x' = y' from fun h j x' y' hj h1 h2 => by
      rcases Nat.lt_or_ge j k with h3 | h3
      ·exact HA.out j x' y' h3 h1 h2
      ·obtain rfl : j = k := by omega
       rw [hx] at h1
       rw [hy] at h2
       injection h1 with h1
       injection h2 with h2
       rw [← h1, ← h2]
       exact sameN_eq.1 h)
     have hbz : b < wr.heap.size := by have := BR.out.size; omega
     have hbz2 : b2 < wr.heap.size := by have := BR.out.size; omega
     have i1 : (0 : Int) ≤ (k : Int) := by omega
     have i2 : (k : Int) < (n : Int) := by omega
     clear hx hy hnx hny HA
     obtain ⟨cx, at1, lf1, rt1, sz1⟩ := x
     obtain ⟨cy, at2, lf2, rt2, sz2⟩ := y
     have HR := hH (fun W (hW : Below wr.heap.size wr W) => r09same_any _ _ cx cy at1 at2 W (hci.below hW) (hdi.below hW))
     dsimp only at x0 x1 x2 x3 x4 y0 y1 y2 y3 y4 hci hdi HR
     obtain ⟨cl, hcl⟩ : ∃ n, cx.length = n := ⟨_, rfl⟩
     obtain ⟨dl, hdl⟩ : ∃ n, cy.length = n := ⟨_, rfl⟩
     rw [hcl] at x0 HR
     rw [hdl] at y0 HR
     clear hci hdi hcl hdl
     by_cases hl : lf1 = lf2
     ·subst hl
      have jl : (lf1 != lf1) = false := by simp
      by_cases hr : rt1 = rt2
      ·subst hr
       have jr : (rt1 != rt1) = false := by simp
       by_cases hs : sz1 = sz2
       ·subst hs
        have js : (sz1 != sz1) = false := by simp
        obtain ⟨R, hR⟩ : ∃ R, (decide (at1 = at2) && decide (cx = cy)) = R := ⟨_, rfl⟩
        have HSN := hH (show sameN ⟨cx, at1, lf1, rt1, sz1⟩ ⟨cy, at2, lf1, rt1, sz1⟩ = R by unfold sameN; rw [← hR]; simp [Bool.and_comm])
        rw [hR] at HR
        clear hR
        cases R with
        | true =>
         have HE := hH (HEQ.out HSN.out)
         clear HNE HEQ
         go_upto_region 6 with fail
         refine wp_region_held_drew (S := fun w' => w'.cell? ⟨w.heap.size, 1, none⟩ = some (.slice (some ⟨b, o, none⟩) n cc) ∧ w'.cell? ⟨w.heap.size + 1, 1, none⟩ = some (.slice (some ⟨b2, o2, none⟩) n cc2) ∧ w'.cell? ⟨b, o + k * 5, none⟩ = some (.slice ca cl cac) ∧ w'.cell? ⟨b, o + k * 5 + 1, none⟩ = some (.int .i64 at1) ∧ w'.cell? ⟨b, o + k * 5 + 2, none⟩ = some (.int .i64 lf1) ∧ w'.cell? ⟨b, o + k * 5 + 3, none⟩ = some (.int .i64 rt1) ∧ w'.cell? ⟨b, o + k * 5 + 4, none⟩ = some (.int .i64 sz1) ∧ w'.cell? ⟨b2, o2 + k * 5, none⟩ = some (.slice da dl dac) ∧ w'.cell? ⟨b2, o2 + k * 5 + 1, none⟩ = some (.int .i64 at2) ∧ w'.cell? ⟨b2, o2 + k * 5 + 2, none⟩ = some (.int .i64 lf1) ∧ w'.cell? ⟨b2, o2 + k * 5 + 3, none⟩ = some (.int .i64 rt1) ∧ w'.cell? ⟨b2, o2 + k * 5 + 4, none⟩ = some (.int .i64 sz1)) rJ kJ (fun hHeld => ?_); refine lJ 0 hHeld ?_; refine lJ 1 hHeld ?_; refine lJ 2 hHeld ?_; refine lJ 3 hHeld ?_; refine lJ 4 hHeld ?_; refine lJ 5 hHeld ?_; refine lJ 6 hHeld ?_; refine lJ 7 hHeld ?_; refine lJ 8 hHeld ?_; refine lJ 9 hHeld ?_; refine lexHv2 10 11 rfl rfl ?_ ?_ rJ; (focus ((intro K hK); (go_simp); clear hHeld; refine pJ hK fun hHeld => ?_; clear hK K; refine lexHv 11 rfl ?_ rJ; (intro K hK); (go_simp); clear hHeld; refine pJ hK fun hHeld => ?_; clear hK K; refine lexHv 12 rfl ?_ rJ; (intro K hK); (go_simp); refine hO hK ?_; (clear hHeld hK K); (intro hHeld); (try simp only [Act.put]); refine lexHv 13 rfl ?_ rJ; (intro K hK); (go_simp); refine hO hK ?_; (clear hHeld hK K); (intro hHeld); (try simp only [Act.put]); refine wpAnyH_done rJ ?_ _)); rotate_left 1; (focus ((intro K hK); (go_simp); clear hHeld; refine pJ hK fun hHeld => ?_; clear hK K; refine lexHv 10 rfl ?_ rJ; (intro K hK); (go_simp); clear hHeld; refine pJ hK fun hHeld => ?_; clear hK K; refine lexHv 12 rfl ?_ rJ; (intro K hK); (go_simp); refine hO hK ?_; (clear hHeld hK K); (intro hHeld); (try simp only [Act.put]); refine lexHv 13 rfl ?_ rJ; (intro K hK); (go_simp); refine hO hK ?_; (clear hHeld hK K); (intro hHeld); (try simp only [Act.put]); refine wpAnyH_done rJ ?_ _))
         all_goals
          go_wp2_with fail
          (with_reducible refine (HR.out _ bw).mono ?_)
          rintro e w5 ⟨rfl, b5⟩
          have B5 := hH (show Below U0.heap.size U0 w5 from BR2.out.trans ((show Below wr.heap.size wr w5 from below_tr bw (b5.mono mJ)).mono (by rw [HZ0.out]; exact hsz)))
          clear b5
          go_wp2_with fail
          go_roundw
          case rel => exact ⟨k + 1, by go_num, by omega, HE.out, B5.out⟩
          case measure => simp [intOf] <;> omega
        | false =>
         have HF := hH (show SV = false by rw [← HSV.out]; exact HNE.out HSN.out)
         clear HNE HEQ
         go_upto_region 6 with fail
         refine wp_region_held_drew (S := fun w' => w'.cell? ⟨w.heap.size, 1, none⟩ = some (.slice (some ⟨b, o, none⟩) n cc) ∧ w'.cell? ⟨w.heap.size + 1, 1, none⟩ = some (.slice (some ⟨b2, o2, none⟩) n cc2) ∧ w'.cell? ⟨b, o + k * 5, none⟩ = some (.slice ca cl cac) ∧ w'.cell? ⟨b, o + k * 5 + 1, none⟩ = some (.int .i64 at1) ∧ w'.cell? ⟨b, o + k * 5 + 2, none⟩ = some (.int .i64 lf1) ∧ w'.cell? ⟨b, o + k * 5 + 3, none⟩ = some (.int .i64 rt1) ∧ w'.cell? ⟨b, o + k * 5 + 4, none⟩ = some (.int .i64 sz1) ∧ w'.cell? ⟨b2, o2 + k * 5, none⟩ = some (.slice da dl dac) ∧ w'.cell? ⟨b2, o2 + k * 5 + 1, none⟩ = some (.int .i64 at2) ∧ w'.cell? ⟨b2, o2 + k * 5 + 2, none⟩ = some (.int .i64 lf1) ∧ w'.cell? ⟨b2, o2 + k * 5 + 3, none⟩ = some (.int .i64 rt1) ∧ w'.cell? ⟨b2, o2 + k * 5 + 4, none⟩ = some (.int .i64 sz1)) rJ kJ (fun hHeld => ?_); refine lJ 0 hHeld ?_; refine lJ 1 hHeld ?_; refine lJ 2 hHeld ?_; refine lJ 3 hHeld ?_; refine lJ 4 hHeld ?_; refine lJ 5 hHeld ?_; refine lJ 6 hHeld ?_; refine lJ 7 hHeld ?_; refine lJ 8 hHeld ?_; refine lJ 9 hHeld ?_; refine lexHv2 10 11 rfl rfl ?_ ?_ rJ; (focus ((intro K hK); (go_simp); clear hHeld; refine pJ hK fun hHeld => ?_; clear hK K; refine lexHv 11 rfl ?_ rJ; (intro K hK); (go_simp); clear hHeld; refine pJ hK fun hHeld => ?_; clear hK K; refine lexHv 12 rfl ?_ rJ; (intro K hK); (go_simp); refine hO hK ?_; (clear hHeld hK K); (intro hHeld); (try simp only [Act.put]); refine lexHv 13 rfl ?_ rJ; (intro K hK); (go_simp); refine hO hK ?_; (clear hHeld hK K); (intro hHeld); (try simp only [Act.put]); refine wpAnyH_done rJ ?_ _)); rotate_left 1; (focus ((intro K hK); (go_simp); clear hHeld; refine pJ hK fun hHeld => ?_; clear hK K; refine lexHv 10 rfl ?_ rJ; (intro K hK); (go_simp); clear hHeld; refine pJ hK fun hHeld => ?_; clear hK K; refine lexHv 12 rfl ?_ rJ; (intro K hK); (go_simp); refine hO hK ?_; (clear hHeld hK K); (intro hHeld); (try simp only [Act.put]); refine lexHv 13 rfl ?_ rJ; (intro K hK); (go_simp); refine hO hK ?_; (clear hHeld hK K); (intro hHeld); (try simp only [Act.put]); refine wpAnyH_done rJ ?_ _))
         all_goals
          go_wp2_with fail
          (with_reducible refine (HR.out _ bw).mono ?_)
          rintro e w5 ⟨rfl, b5⟩
          have B5 := hH (show Below w.heap.size w w5 from below_tr (show Below w.heap.size w _ from bx BR.out) (b5.mono mJ))
          clear b5
          go_wp2_with fail
          go_ret
          exact ⟨by rw [HF.out]; rfl, B5.out⟩
       ·have js : (sz1 != sz2) = true := by simp [hs]
        have HF := hH (show SV = false by rw [← HSV.out]; exact HNE.out (by unfold sameN; simp [hs]))
        clear HNE HEQ hs
        go_upto_region 6 with fail
        refine wp_region_held_drew (S := fun w' => w'.cell? ⟨w.heap.size, 1, none⟩ = some (.slice (some ⟨b, o, none⟩) n cc) ∧ w'.cell? ⟨w.heap.size + 1, 1, none⟩ = some (.slice (some ⟨b2, o2, none⟩) n cc2) ∧ w'.cell? ⟨b, o + k * 5, none⟩ = some (.slice ca cl cac) ∧ w'.cell? ⟨b, o + k * 5 + 1, none⟩ = some (.int .i64 at1) ∧ w'.cell? ⟨b, o + k * 5 + 2, none⟩ = some (.int .i64 lf1) ∧ w'.cell? ⟨b, o + k * 5 + 3, none⟩ = some (.int .i64 rt1) ∧ w'.cell? ⟨b, o + k * 5 + 4, none⟩ = some (.int .i64 sz1) ∧ w'.cell? ⟨b2, o2 + k * 5, none⟩ = some (.slice da dl dac) ∧ w'.cell? ⟨b2, o2 + k * 5 + 1, none⟩ = some (.int .i64 at2) ∧ w'.cell? ⟨b2, o2 + k * 5 + 2, none⟩ = some (.int .i64 lf1) ∧ w'.cell? ⟨b2, o2 + k * 5 + 3, none⟩ = some (.int .i64 rt1) ∧ w'.cell? ⟨b2, o2 + k * 5 + 4, none⟩ = some (.int .i64 sz2)) rJ kJ (fun hHeld => ?_); refine lJ 0 hHeld ?_; refine lJ 1 hHeld ?_; refine lJ 2 hHeld ?_; refine lJ 3 hHeld ?_; refine lJ 4 hHeld ?_; refine lJ 5 hHeld ?_; refine lJ 6 hHeld ?_; refine lJ 7 hHeld ?_; refine lJ 8 hHeld ?_; refine lJ 9 hHeld ?_; refine lexHv2 10 11 rfl rfl ?_ ?_ rJ; (focus ((intro K hK); (go_simp); clear hHeld; refine pJ hK fun hHeld => ?_; clear hK K; refine lexHv 11 rfl ?_ rJ; (intro K hK); (go_simp); clear hHeld; refine pJ hK fun hHeld => ?_; clear hK K; refine lexHv 12 rfl ?_ rJ; (intro K hK); (go_simp); refine hO hK ?_; (clear hHeld hK K); (intro hHeld); (try simp only [Act.put]); refine lexHv 13 rfl ?_ rJ; (intro K hK); (go_simp); refine hO hK ?_; (clear hHeld hK K); (intro hHeld); (try simp only [Act.put]); refine wpAnyH_done rJ ?_ _)); rotate_left 1; (focus ((intro K hK); (go_simp); clear hHeld; refine pJ hK fun hHeld => ?_; clear hK K; refine lexHv 10 rfl ?_ rJ; (intro K hK); (go_simp); clear hHeld; refine pJ hK fun hHeld => ?_; clear hK K; refine lexHv 12 rfl ?_ rJ; (intro K hK); (go_simp); refine hO hK ?_; (clear hHeld hK K); (intro hHeld); (try simp only [Act.put]); refine lexHv 13 rfl ?_ rJ; (intro K hK); (go_simp); refine hO hK ?_; (clear hHeld hK K); (intro hHeld); (try simp only [Act.put]); refine wpAnyH_done rJ ?_ _))
        all_goals
         go_wp2_with fail
         go_ret
         exact ⟨by rw [HF.out]; rfl, bx BR.out⟩
      ·have jr : (rt1 != rt2) = true := by simp [hr]
       have HF := hH (show SV = false by rw [← HSV.out]; exact HNE.out (by unfold sameN; simp [hr]))
       clear HNE HEQ hr
       go_upto_region 6 with fail
       refine wp_region_held_drew (S := fun w' => w'.cell? ⟨w.heap.size, 1, none⟩ = some (.slice (some ⟨b, o, none⟩) n cc) ∧ w'.cell? ⟨w.heap.size + 1, 1, none⟩ = some (.slice (some ⟨b2, o2, none⟩) n cc2) ∧ w'.cell? ⟨b, o + k * 5, none⟩ = some (.slice ca cl cac) ∧ w'.cell? ⟨b, o + k * 5 + 1, none⟩ = some (.int .i64 at1) ∧ w'.cell? ⟨b, o + k * 5 + 2, none⟩ = some (.int .i64 lf1) ∧ w'.cell? ⟨b, o + k * 5 + 3, none⟩ = some (.int .i64 rt1) ∧ w'.cell? ⟨b, o + k * 5 + 4, none⟩ = some (.int .i64 sz1) ∧ w'.cell? ⟨b2, o2 + k * 5, none⟩ = some (.slice da dl dac) ∧ w'.cell? ⟨b2, o2 + k * 5 + 1, none⟩ = some (.int .i64 at2) ∧ w'.cell? ⟨b2, o2 + k * 5 + 2, none⟩ = some (.int .i64 lf1) ∧ w'.cell? ⟨b2, o2 + k * 5 + 3, none⟩ = some (.int .i64 rt2) ∧ w'.cell? ⟨b2, o2 + k * 5 + 4, none⟩ = some (.int .i64 sz2)) rJ kJ (fun hHeld => ?_); refine lJ 0 hHeld ?_; refine lJ 1 hHeld ?_; refine lJ 2 hHeld ?_; refine lJ 3 hHeld ?_; refine lJ 4 hHeld ?_; refine lJ 5 hHeld ?_; refine lJ 6 hHeld ?_; refine lJ 7 hHeld ?_; refine lJ 8 hHeld ?_; refine lJ 9 hHeld ?_; refine lexHv2 10 11 rfl rfl ?_ ?_ rJ; (focus ((intro K hK); (go_simp); clear hHeld; refine pJ hK fun hHeld => ?_; clear hK K; refine lexHv 11 rfl ?_ rJ; (intro K hK); (go_simp); clear hHeld; refine pJ hK fun hHeld => ?_; clear hK K; refine lexHv 12 rfl ?_ rJ; (intro K hK); (go_simp); refine hO hK ?_; (clear hHeld hK K); (intro hHeld); (try simp only [Act.put]); refine lexHv 13 rfl ?_ rJ; (intro K hK); (go_simp); refine hO hK ?_; (clear hHeld hK K); (intro hHeld); (try simp only [Act.put]); refine wpAnyH_done rJ ?_ _)); rotate_left 1; (focus ((intro K hK); (go_simp); clear hHeld; refine pJ hK fun hHeld => ?_; clear hK K; refine lexHv 10 rfl ?_ rJ; (intro K hK); (go_simp); clear hHeld; refine pJ hK fun hHeld => ?_; clear hK K; refine lexHv 12 rfl ?_ rJ; (intro K hK); (go_simp); refine hO hK ?_; (clear hHeld hK K); (intro hHeld); (try simp only [Act.put]); refine lexHv 13 rfl ?_ rJ; (intro K hK); (go_simp); refine hO hK ?_; (clear hHeld hK K); (intro hHeld); (try simp only [Act.put]); refine wpAnyH_done rJ ?_ _))
       all_goals
        go_wp2_with fail
        go_ret
        exact ⟨by rw [HF.out]; rfl, bx BR.out⟩
     ·have jl : (lf1 != lf2) = true := by simp [hl]
      have HF := hH (show SV = false by rw [← HSV.out]; exact HNE.out (by unfold sameN; simp [hl]))
      clear HNE HEQ hl
      go_upto_region 6 with fail
      refine wp_region_held_drew (S := fun w' => w'.cell? ⟨w.heap.size, 1, none⟩ = some (.slice (some ⟨b, o, none⟩) n cc) ∧ w'.cell? ⟨w.heap.size + 1, 1, none⟩ = some (.slice (some ⟨b2, o2, none⟩) n cc2) ∧ w'.cell? ⟨b, o + k * 5, none⟩ = some (.slice ca cl cac) ∧ w'.cell? ⟨b, o + k * 5 + 1, none⟩ = some (.int .i64 at1) ∧ w'.cell? ⟨b, o + k * 5 + 2, none⟩ = some (.int .i64 lf1) ∧ w'.cell? ⟨b, o + k * 5 + 3, none⟩ = some (.int .i64 rt1) ∧ w'.cell? ⟨b, o + k * 5 + 4, none⟩ = some (.int .i64 sz1) ∧ w'.cell? ⟨b2, o2 + k * 5, none⟩ = some (.slice da dl dac) ∧ w'.cell? ⟨b2, o2 + k * 5 + 1, none⟩ = some (.int .i64 at2) ∧ w'.cell? ⟨b2, o2 + k * 5 + 2, none⟩ = some (.int .i64 lf2) ∧ w'.cell? ⟨b2, o2 + k * 5 + 3, none⟩ = some (.int .i64 rt2) ∧ w'.cell? ⟨b2, o2 + k * 5 + 4, none⟩ = some (.int .i64 sz2)) rJ kJ (fun hHeld => ?_); refine lJ 0 hHeld ?_; refine lJ 1 hHeld ?_; refine lJ 2 hHeld ?_; refine lJ 3 hHeld ?_; refine lJ 4 hHeld ?_; refine lJ 5 hHeld ?_; refine lJ 6 hHeld ?_; refine lJ 7 hHeld ?_; refine lJ 8 hHeld ?_; refine lJ 9 hHeld ?_; refine lexHv2 10 11 rfl rfl ?_ ?_ rJ; (focus ((intro K hK); (go_simp); clear hHeld; refine pJ hK fun hHeld => ?_; clear hK K; refine lexHv 11 rfl ?_ rJ; (intro K hK); (go_simp); clear hHeld; refine pJ hK fun hHeld => ?_; clear hK K; refine lexHv 12 rfl ?_ rJ; (intro K hK); (go_simp); refine hO hK ?_; (clear hHeld hK K); (intro hHeld); (try simp only [Act.put]); refine lexHv 13 rfl ?_ rJ; (intro K hK); (go_simp); refine hO hK ?_; (clear hHeld hK K); (intro hHeld); (try simp only [Act.put]); refine wpAnyH_done rJ ?_ _)); rotate_left 1; (focus ((intro K hK); (go_simp); clear hHeld; refine pJ hK fun hHeld => ?_; clear hK K; refine lexHv 10 rfl ?_ rJ; (intro K hK); (go_simp); clear hHeld; refine pJ hK fun hHeld => ?_; clear hK K; refine lexHv 12 rfl ?_ rJ; (intro K hK); (go_simp); refine hO hK ?_; (clear hHeld hK K); (intro hHeld); (try simp only [Act.put]); refine lexHv 13 rfl ?_ rJ; (intro K hK); (go_simp); refine hO hK ?_; (clear hHeld hK K); (intro hHeld); (try simp only [Act.put]); refine wpAnyH_done rJ ?_ _))
      all_goals
       go_wp2_with fail
       go_ret
       exact ⟨by rw [HF.out]; rfl, bx BR.out⟩
    ·have hkk : k = n := by omega
     subst hkk
     have HE := hH (show SV = true by
      rw [← HSV.out]
      unfold sameT
      have hnn : s.nodes = t.nodes := by
       apply List.ext_getElem?
       intro j
       rcases hx : s.nodes[j]? with _ | x
       ·rw [eq_comm, List.getElem?_eq_none_iff, HM.out]
        rw [List.getElem?_eq_none_iff, HN.out] at hx
        exact hx
       ·have hjl := (List.getElem?_eq_some_iff.1 hx).1
        obtain ⟨y, hy⟩ := getElem?_ex (l := t.nodes) (k := j) (by rw [HM.out, ← HN.out]; exact hjl)
        rw [hy, HA.out j x y (by rw [HN.out] at hjl; exact hjl) hx hy]
      simp [hnn, HDD.out])
     go_wp2_with fail
     go_ret
     exact ⟨by rw [HE.out]; rfl, bx BR.out⟩
  ·have HF := hH (show SV = false by rw [← hSV]; unfold sameT; have : ¬ s.nodes = t.nodes := (fun e => hnm (by rw [← hn, ← hm, e])); simp [this])
   have j2 : ((n : Int) != (m : Int)) = true := by simp; omega
   clear hcell hcell2 hSV hn hm hd hd2 hnm
   go_enter Tryz.func85, Tryz.ntmps85
   go_wp2_with fail
   go_ret
   exact ⟨by rw [HF.out]; rfl, bw⟩
 ·have HF := hH (show SV = false by rw [← hSV]; unfold sameT; rw [hd, hd2]; simp [hdd])
  have j1 : (d != d2) = true := by simp [hdd]
  clear hcell hcell2 hSV hn hm hd hd2 hdd
  go_enter Tryz.func85, Tryz.ntmps85
  go_wp2_with fail
  go_ret
  exact ⟨by rw [HF.out]; rfl, bw⟩
end Go.Proofs.YtgobbecpnjelmaaGreat
