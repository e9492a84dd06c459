/-
  ForA: Walks of forest's stands, every and Is.
-/
import Derived.Test.YtgobbecpnjelmaaGreatJ2b
import Derived.Test.YtgobbecpnjelmaaGreatKTreeA
import Derived.Test.YtgobbecpnjelmaaGreatJ0b
namespace Go.Proofs.YtgobbecpnjelmaaGreat
open Go.RowKit

set_option maxRecDepth 100000 in
set_option maxHeartbeats 4000000 in
theorem stands_any (v : Value) (l : List (TreeP × Int)) (k : Nat) (p : TreeP × Int) (w : World) (h : GrownsR w v l) (hk : l[k]? = some p) :
  Calls Tryz.prog 122 #[v, .int .i64 (k : Int)] w fun e w' => e = .returned (.bool (stB l p)) ∧ Below w.heap.size w w' := by
 obtain ⟨ad, cc, rfl, _, _, q3, hcell⟩ := h
 obtain ⟨b, o, nv, rfl, hb, c0, c1, c2, hz, hn⟩ := hcell k p hk
 have hlen := (List.getElem?_eq_some_iff.1 hk).1
 obtain ⟨t0, ht0⟩ := getElem?_ex (l := l) (k := 0) (by omega)
 obtain ⟨b', o', _, e, _, d0, _⟩ := hcell 0 t0 ht0
 injection e with e
 injection e with e1 e2 e3
 subst e1 e2
 have hd0 : dim0 (l.map (·.1)) = t0.1.dim := by unfold dim0; rw [List.getElem?_map, ht0]; rfl
 rw [Nat.zero_mul, Nat.add_zero, ← hd0] at d0
 have HT := hH (show TreeR w (.agg #[.int .i64 p.1.dim, nv]) p.1 from ⟨nv, rfl, hn⟩)
 obtain ⟨na, nc, rfl, _⟩ := hn
 have i1 : (0 : Int) ≤ (k : Int) := by omega
 have i2 : (k : Int) < (l.length : Int) := by omega
 have i3 : (0 : Int) < (l.length : Int) := by omega
 have i4 : 0 < l.length := by omega
 obtain ⟨SB, hSB⟩ : ∃ SB, stB l p = SB := ⟨_, rfl⟩
 rw [hSB]
 obtain ⟨TB, hTB⟩ : ∃ TB, treeB p.1 = TB := ⟨_, rfl⟩
 have HTI := hH (fun W (hW : TreeR W (.agg #[.int .i64 p.1.dim, .slice na p.1.nodes.length nc]) p.1) => hTB ▸ tis_any _ p.1 W hW)
 have HS := hH (show (decide (0 ≤ p.2) && decide (p.2 ≤ 1099511627776) && (TB && decide (p.1.dim = dim0 (l.map (·.1))))) = SB by rw [← hSB, ← hTB]; rfl)
 clear hcell hk ht0 hd0 hSB hTB hlen
 generalize l.length = n at *
 generalize p.1.nodes.length = tn at *
 generalize dim0 (l.map (·.1)) = D at *
 obtain ⟨d, hd⟩ : ∃ d, p.1.dim = d := ⟨_, rfl⟩
 rw [hd] at c0 HT HTI HS
 clear hd
 obtain ⟨z, hzz⟩ : ∃ z, p.2 = z := ⟨_, rfl⟩
 rw [hzz] at c2 HS hz
 clear hzz
 by_cases h1 : z < 0
 ·have a1 : ¬ 0 ≤ z := by omega
  have a2 : decide (0 ≤ z) = false := decide_eq_false a1
  have G := hH (show SB = false by rw [← HS.out]; simp [a1])
  go_enter Tryz.func122, Tryz.ntmps122
  go_upto_region 2 with fail
  refine wp_region_held_drew (S := fun w' => w'.cell? ⟨w.heap.size, 0, none⟩ = some (.int .i64 d) ∧ w'.cell? ⟨w.heap.size, 1, none⟩ = some (.slice na tn nc) ∧ w'.cell? ⟨w.heap.size, 2, none⟩ = some (.int .i64 z) ∧ w'.cell? ⟨b, o, none⟩ = some (.int .i64 D)) rJ kJ (fun hHeld => ?_); refine lJ 0 hHeld ?_; refine lJ 1 hHeld ?_; refine lJ 2 hHeld ?_; refine lJ 3 hHeld ?_; (first | refine lJ 4 hHeld ?_ | refine lS 4 rfl hHeld ?_); (first | refine lJ 5 hHeld ?_ | refine lS 5 rfl hHeld ?_); (first | refine lJ 6 hHeld ?_ | refine lS 6 rfl hHeld ?_); refine lJ 7 hHeld ?_; refine lJ 8 hHeld ?_; (first | refine lJ 9 hHeld ?_ | refine lS 9 rfl hHeld ?_); (first | refine lJ 10 hHeld ?_ | refine lS 10 rfl hHeld ?_); (first | refine lJ 11 hHeld ?_ | refine lS 11 rfl hHeld ?_); (first | refine lJ 12 hHeld ?_ | refine lS 12 rfl hHeld ?_); (first | refine lJ 13 hHeld ?_ | refine lS 13 rfl hHeld ?_); (first | refine lJ 14 hHeld ?_ | refine lS 14 rfl hHeld ?_); (first | refine lJ 15 hHeld ?_ | refine lS 15 rfl hHeld ?_); (first | refine lJ 16 hHeld ?_ | refine lS 16 rfl hHeld ?_); (first | refine lJ 17 hHeld ?_ | refine lS 17 rfl hHeld ?_); refine lJ 18 hHeld ?_; refine lJ 19 hHeld ?_; (first | refine lJ 20 hHeld ?_ | refine lS 20 rfl hHeld ?_); (first | refine lJ 21 hHeld ?_ | refine lS 21 rfl hHeld ?_); refine lS 22 rfl hHeld ?_; refine lJ 23 hHeld ?_; refine lJ 24 hHeld ?_; refine wpAnyH_done rJ ?_ _
  all_goals
   go_wp2_with fail
   go_ret
   exact ⟨by rw [G.out]; rfl, bw⟩
 have a1 : 0 ≤ z := by omega
 clear h1
 by_cases h2 : 1099511627776 < z
 ·have a3 : ¬ z ≤ 1099511627776 := by omega
  have G := hH (show SB = false by rw [← HS.out]; simp [a3])
  go_enter Tryz.func122, Tryz.ntmps122
  go_upto_region 2 with fail
  refine wp_region_held_drew (S := fun w' => w'.cell? ⟨w.heap.size, 0, none⟩ = some (.int .i64 d) ∧ w'.cell? ⟨w.heap.size, 1, none⟩ = some (.slice na tn nc) ∧ w'.cell? ⟨w.heap.size, 2, none⟩ = some (.int .i64 z) ∧ w'.cell? ⟨b, o, none⟩ = some (.int .i64 D)) rJ kJ (fun hHeld => ?_); refine lJ 0 hHeld ?_; refine lJ 1 hHeld ?_; refine lJ 2 hHeld ?_; refine lJ 3 hHeld ?_; (first | refine lJ 4 hHeld ?_ | refine lS 4 rfl hHeld ?_); (first | refine lJ 5 hHeld ?_ | refine lS 5 rfl hHeld ?_); (first | refine lJ 6 hHeld ?_ | refine lS 6 rfl hHeld ?_); refine lJ 7 hHeld ?_; refine lJ 8 hHeld ?_; (first | refine lJ 9 hHeld ?_ | refine lS 9 rfl hHeld ?_); (first | refine lJ 10 hHeld ?_ | refine lS 10 rfl hHeld ?_); (first | refine lJ 11 hHeld ?_ | refine lS 11 rfl hHeld ?_); (first | refine lJ 12 hHeld ?_ | refine lS 12 rfl hHeld ?_); (first | refine lJ 13 hHeld ?_ | refine lS 13 rfl hHeld ?_); (first | refine lJ 14 hHeld ?_ | refine lS 14 rfl hHeld ?_); (first | refine lJ 15 hHeld ?_ | refine lS 15 rfl hHeld ?_); (first | refine lJ 16 hHeld ?_ | refine lS 16 rfl hHeld ?_); (first | refine lJ 17 hHeld ?_ | refine lS 17 rfl hHeld ?_); refine lJ 18 hHeld ?_; refine lJ 19 hHeld ?_; (first | refine lJ 20 hHeld ?_ | refine lS 20 rfl hHeld ?_); (first | refine lJ 21 hHeld ?_ | refine lS 21 rfl hHeld ?_); refine lS 22 rfl hHeld ?_; refine lJ 23 hHeld ?_; refine lJ 24 hHeld ?_; refine wpAnyH_done rJ ?_ _
  all_goals
   go_wp2_with fail
   go_ret
   exact ⟨by rw [G.out]; rfl, bw⟩
 have a3 : z ≤ 1099511627776 := by omega
 clear h2
 have HS := hH (show (TB && decide (d = D)) = SB by rw [← HS.out, decide_eq_true a1, decide_eq_true a3]; rfl)
 by_cases h3 : d = D
 ·subst h3
  have a4 : (d == d) = true := by simp
  have HS := hH (show TB = SB by rw [← HS.out]; simp)
  cases TB with
  | true =>
   have G := hH (show SB = true by rw [← HS.out])
   go_enter Tryz.func122, Tryz.ntmps122
   go_upto_region 2 with fail
   refine wp_region_held_drew (S := fun w' => w'.cell? ⟨w.heap.size, 0, none⟩ = some (.int .i64 d) ∧ w'.cell? ⟨w.heap.size, 1, none⟩ = some (.slice na tn nc) ∧ w'.cell? ⟨w.heap.size, 2, none⟩ = some (.int .i64 z) ∧ w'.cell? ⟨b, o, none⟩ = some (.int .i64 d)) rJ kJ (fun hHeld => ?_); refine lJ 0 hHeld ?_; refine lJ 1 hHeld ?_; refine lJ 2 hHeld ?_; refine lJ 3 hHeld ?_; (first | refine lJ 4 hHeld ?_ | refine lS 4 rfl hHeld ?_); (first | refine lJ 5 hHeld ?_ | refine lS 5 rfl hHeld ?_); (first | refine lJ 6 hHeld ?_ | refine lS 6 rfl hHeld ?_); refine lJ 7 hHeld ?_; refine lJ 8 hHeld ?_; (first | refine lJ 9 hHeld ?_ | refine lS 9 rfl hHeld ?_); (first | refine lJ 10 hHeld ?_ | refine lS 10 rfl hHeld ?_); (first | refine lJ 11 hHeld ?_ | refine lS 11 rfl hHeld ?_); (first | refine lJ 12 hHeld ?_ | refine lS 12 rfl hHeld ?_); (first | refine lJ 13 hHeld ?_ | refine lS 13 rfl hHeld ?_); (first | refine lJ 14 hHeld ?_ | refine lS 14 rfl hHeld ?_); (first | refine lJ 15 hHeld ?_ | refine lS 15 rfl hHeld ?_); (first | refine lJ 16 hHeld ?_ | refine lS 16 rfl hHeld ?_); (first | refine lJ 17 hHeld ?_ | refine lS 17 rfl hHeld ?_); refine lJ 18 hHeld ?_; refine lJ 19 hHeld ?_; (first | refine lJ 20 hHeld ?_ | refine lS 20 rfl hHeld ?_); (first | refine lJ 21 hHeld ?_ | refine lS 21 rfl hHeld ?_); refine lexHv 22 rfl ?_ rJ; (intro K hK); (go_simp; (go_at_call 131); ((with_reducible refine (HTI.out _ (HT.out.below bw)).mono ?_)); (rintro e w4 ⟨rfl, b4⟩); (have B4 := hH (show Below w.heap.size w w4 from below_tr bw (b4.mono mJ))); (have y0 : w4.cell? ⟨w.heap.size, 0, none⟩ = some (.int .i64 d) := (b4.cell mJ).trans (by go_simp)); (have y1 : w4.cell? ⟨w.heap.size, 1, none⟩ = some (.slice na tn nc) := (b4.cell mJ).trans (by go_simp)); (have y2 : w4.cell? ⟨w.heap.size, 2, none⟩ = some (.int .i64 z) := (b4.cell mJ).trans (by go_simp)); (have y3 : w4.cell? ⟨b, o, none⟩ = some (.int .i64 d) := (b4.cell mJ).trans (by go_simp)); (clear b4); (try go_wp2_with fail)); clear hHeld; refine pJ hK fun hHeld => ?_; clear hK K; refine lJ 23 hHeld ?_; refine lJ 24 hHeld ?_; refine wpAnyH_done rJ ?_ _
   all_goals
    go_wp2_with fail
    go_ret
    exact ⟨by rw [G.out]; rfl, bx B4.out⟩
  | false =>
   have G := hH (show SB = false by rw [← HS.out])
   go_enter Tryz.func122, Tryz.ntmps122
   go_upto_region 2 with fail
   refine wp_region_held_drew (S := fun w' => w'.cell? ⟨w.heap.size, 0, none⟩ = some (.int .i64 d) ∧ w'.cell? ⟨w.heap.size, 1, none⟩ = some (.slice na tn nc) ∧ w'.cell? ⟨w.heap.size, 2, none⟩ = some (.int .i64 z) ∧ w'.cell? ⟨b, o, none⟩ = some (.int .i64 d)) rJ kJ (fun hHeld => ?_); refine lJ 0 hHeld ?_; refine lJ 1 hHeld ?_; refine lJ 2 hHeld ?_; refine lJ 3 hHeld ?_; (first | refine lJ 4 hHeld ?_ | refine lS 4 rfl hHeld ?_); (first | refine lJ 5 hHeld ?_ | refine lS 5 rfl hHeld ?_); (first | refine lJ 6 hHeld ?_ | refine lS 6 rfl hHeld ?_); refine lJ 7 hHeld ?_; refine lJ 8 hHeld ?_; (first | refine lJ 9 hHeld ?_ | refine lS 9 rfl hHeld ?_); (first | refine lJ 10 hHeld ?_ | refine lS 10 rfl hHeld ?_); (first | refine lJ 11 hHeld ?_ | refine lS 11 rfl hHeld ?_); (first | refine lJ 12 hHeld ?_ | refine lS 12 rfl hHeld ?_); (first | refine lJ 13 hHeld ?_ | refine lS 13 rfl hHeld ?_); (first | refine lJ 14 hHeld ?_ | refine lS 14 rfl hHeld ?_); (first | refine lJ 15 hHeld ?_ | refine lS 15 rfl hHeld ?_); (first | refine lJ 16 hHeld ?_ | refine lS 16 rfl hHeld ?_); (first | refine lJ 17 hHeld ?_ | refine lS 17 rfl hHeld ?_); refine lJ 18 hHeld ?_; refine lJ 19 hHeld ?_; (first | refine lJ 20 hHeld ?_ | refine lS 20 rfl hHeld ?_); (first | refine lJ 21 hHeld ?_ | refine lS 21 rfl hHeld ?_); refine lexHv 22 rfl ?_ rJ; (intro K hK); (go_simp; (go_at_call 131); ((with_reducible refine (HTI.out _ (HT.out.below bw)).mono ?_)); (rintro e w4 ⟨rfl, b4⟩); (have B4 := hH (show Below w.heap.size w w4 from below_tr bw (b4.mono mJ))); (have y0 : w4.cell? ⟨w.heap.size, 0, none⟩ = some (.int .i64 d) := (b4.cell mJ).trans (by go_simp)); (have y1 : w4.cell? ⟨w.heap.size, 1, none⟩ = some (.slice na tn nc) := (b4.cell mJ).trans (by go_simp)); (have y2 : w4.cell? ⟨w.heap.size, 2, none⟩ = some (.int .i64 z) := (b4.cell mJ).trans (by go_simp)); (have y3 : w4.cell? ⟨b, o, none⟩ = some (.int .i64 d) := (b4.cell mJ).trans (by go_simp)); (clear b4); (try go_wp2_with fail)); clear hHeld; refine pJ hK fun hHeld => ?_; clear hK K; refine lJ 23 hHeld ?_; refine lJ 24 hHeld ?_; refine wpAnyH_done rJ ?_ _
   all_goals
    go_wp2_with fail
    go_ret
    exact ⟨by rw [G.out]; rfl, bx B4.out⟩
 ·have a4 : (d == D) = false := by simp [h3]
  have G := hH (show SB = false by rw [← HS.out]; simp [h3])
  clear h3 HS
  go_enter Tryz.func122, Tryz.ntmps122
  go_upto_region 2 with fail
  refine wp_region_held_drew (S := fun w' => w'.cell? ⟨w.heap.size, 0, none⟩ = some (.int .i64 d) ∧ w'.cell? ⟨w.heap.size, 1, none⟩ = some (.slice na tn nc) ∧ w'.cell? ⟨w.heap.size, 2, none⟩ = some (.int .i64 z) ∧ w'.cell? ⟨b, o, none⟩ = some (.int .i64 D)) rJ kJ (fun hHeld => ?_); refine lJ 0 hHeld ?_; refine lJ 1 hHeld ?_; refine lJ 2 hHeld ?_; refine lJ 3 hHeld ?_; (first | refine lJ 4 hHeld ?_ | refine lS 4 rfl hHeld ?_); (first | refine lJ 5 hHeld ?_ | refine lS 5 rfl hHeld ?_); (first | refine lJ 6 hHeld ?_ | refine lS 6 rfl hHeld ?_); refine lJ 7 hHeld ?_; refine lJ 8 hHeld ?_; (first | refine lJ 9 hHeld ?_ | refine lS 9 rfl hHeld ?_); (first | refine lJ 10 hHeld ?_ | refine lS 10 rfl hHeld ?_); (first | refine lJ 11 hHeld ?_ | refine lS 11 rfl hHeld ?_); (first | refine lJ 12 hHeld ?_ | refine lS 12 rfl hHeld ?_); (first | refine lJ 13 hHeld ?_ | refine lS 13 rfl hHeld ?_); (first | refine lJ 14 hHeld ?_ | refine lS 14 rfl hHeld ?_); (first | refine lJ 15 hHeld ?_ | refine lS 15 rfl hHeld ?_); (first | refine lJ 16 hHeld ?_ | refine lS 16 rfl hHeld ?_); (first | refine lJ 17 hHeld ?_ | refine lS 17 rfl hHeld ?_); refine lJ 18 hHeld ?_; refine lJ 19 hHeld ?_; (first | refine lJ 20 hHeld ?_ | refine lS 20 rfl hHeld ?_); (first | refine lJ 21 hHeld ?_ | refine lS 21 rfl hHeld ?_); refine lS 22 rfl hHeld ?_; refine lJ 23 hHeld ?_; refine lJ 24 hHeld ?_; refine wpAnyH_done rJ ?_ _
  all_goals
   go_wp2_with fail
   go_ret
   exact ⟨by rw [G.out]; rfl, bw⟩

set_option maxHeartbeats 1000000 in
theorem every_any (v : Value) (l : List (TreeP × Int)) (w : World) (h : GrownsR w v l) :
  Calls Tryz.prog 123 #[v, .func (.func 122) #[v] #[]] w fun e w' => e = .returned (.bool (l.all (stB l))) ∧ Below w.heap.size w w' := by
 have HG := hH h
 obtain ⟨ad, cc, rfl, _, _, q3, _⟩ := h
 obtain ⟨n, hn⟩ : ∃ n, l.length = n := ⟨_, rfl⟩
 rw [hn] at q3 HG ⊢
 have HL := hH hn
 clear hn
 obtain ⟨A, hA⟩ : ∃ A, l.all (stB l) = A := ⟨_, rfl⟩
 rw [hA]
 have HA := hH hA
 clear hA
 go_enter Tryz.func123, Tryz.ntmps123
 go_wp2_with fail
 go_loopw [5, 8] (fun _ idx wr => ∃ k : Nat, idx = .int .i64 k ∧ k ≤ n ∧ (∀ i p, i < k → l[i]? = some p → stB l p = true) ∧ Below w.heap.size w wr) (fun _ idx _ => n - (intOf idx).toNat)
 case atStart => exact ⟨0, rfl, by omega, fun i t h => by omega, Below.refl _ _⟩
 case round =>
  obtain ⟨k, rfl, hk, hall, hbr⟩ := hrel
  have HAL := hH hall
  have HBR := hH hbr
  have hsz := hbr.size
  clear hall hbr
  by_cases hlt : k < n
  ·obtain ⟨p, hp⟩ := getElem?_ex (l := l) (k := k) (by rw [HL.out]; exact hlt)
   have HP := hH hp
   obtain ⟨SB, hSB⟩ : ∃ SB, stB l p = SB := ⟨_, rfl⟩
   have HST := hH (fun W (hW : GrownsR W (.slice ad n cc) l) => hSB ▸ stands_any _ l k p W hW hp)
   have HSB := hH hSB
   clear hp hSB
   have i1 : (0 : Int) ≤ (k : Int) := by omega
   have i2 : (k : Int) < (n : Int) := by omega
   cases SB with
   | false =>
    have G := hH (show A = false by
     rw [← HA.out, List.all_eq_false]
     exact ⟨p, List.mem_of_getElem? HP.out, by rw [HSB.out]; decide⟩)
    go_wp2_with fail
    (with_reducible refine (HST.out _ (HG.out.below HBR.out)).mono ?_)
    rintro e w4 ⟨rfl, b4⟩
    have B4 := hH b4
    clear b4
    go_wp2_with fail
    go_ret
    exact ⟨by rw [G.out]; rfl, by (repeat (first | with_reducible exact Below.refl _ _ | with_reducible refine Bs ?_ | with_reducible refine Ba ?_ | with_reducible refine Bd ?_ | with_reducible refine Bn ?_ | with_reducible refine Bt B4.out ?_ | with_reducible refine Bt HBR.out ?_))⟩
   | true =>
    go_wp2_with fail
    (with_reducible refine (HST.out _ (HG.out.below HBR.out)).mono ?_)
    rintro e w4 ⟨rfl, b4⟩
    have B4 := hH b4
    clear b4
    go_wp2_with fail
    go_roundw
    case rel =>
     refine ⟨k + 1, by go_num, by omega, fun i t' hi ht' => ?_, by (repeat (first | with_reducible exact Below.refl _ _ | with_reducible refine Bs ?_ | with_reducible refine Ba ?_ | with_reducible refine Bd ?_ | with_reducible refine Bn ?_ | with_reducible refine Bt B4.out ?_ | with_reducible refine Bt HBR.out ?_))⟩
     rcases Nat.lt_or_ge i k with h | h
     ·exact HAL.out i t' h ht'
     ·obtain rfl : i = k := by omega
      rw [HP.out] at ht'
      injection ht' with ht'
      subst ht'
      exact HSB.out
    case measure => simp [intOf] <;> omega
  ·obtain rfl : k = n := by omega
   have G := hH (show A = true by
    rw [← HA.out, List.all_eq_true]
    intro t ht
    obtain ⟨i, hi⟩ := List.getElem?_of_mem ht
    exact HAL.out i t (by have := (List.getElem?_eq_some_iff.1 hi).1; have := HL.out; omega) hi)
   go_wp2_with fail
   go_ret
   exact ⟨by rw [G.out]; rfl, HBR.out⟩

set_option maxHeartbeats 1000000 in
theorem fis_any (v : Value) (l : List (TreeP × Int)) (w : World) (h : GrownsR w v l) :
  Calls Tryz.prog 76 #[v] w fun e w' => e = .returned (.bool (isF l)) ∧ Below w.heap.size w w' := by
 have HG := hH h
 have HE := hH (fun W (hW : GrownsR W v l) => every_any v l W hW)
 obtain ⟨ad, cc, rfl, _, _, q3, _⟩ := h
 unfold isF
 obtain ⟨n, hn⟩ : ∃ n, l.length = n := ⟨_, rfl⟩
 rw [hn] at q3 HG HE ⊢
 clear hn
 generalize l.all (stB l) = A at *
 by_cases h16 : n ≤ 16
 ·have h1 : (n : Int) ≤ 16 := by omega
  rw [decide_eq_true h16, Bool.true_and]
  go_enter Tryz.func76, Tryz.ntmps76
  go_wp2_with fail
  (with_reducible refine (HE.out _ (HG.out.below bw)).mono ?_)
  rintro e w4 ⟨rfl, b4⟩
  have B4 := hH b4
  clear b4
  go_wp2_with fail
  go_ret
  exact ⟨rfl, bx B4.out⟩
 ·have h1 : ¬ (n : Int) ≤ 16 := by omega
  rw [decide_eq_false h16, Bool.false_and]
  clear HE
  go_enter Tryz.func76, Tryz.ntmps76
  go_wp2_with fail
  go_ret
  exact ⟨rfl, bw⟩
end Go.Proofs.YtgobbecpnjelmaaGreat
