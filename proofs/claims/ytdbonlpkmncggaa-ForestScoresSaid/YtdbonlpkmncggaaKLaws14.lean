/-
  Laws14: What the laws of layer 14 share: copselaw14.two, copselaw14.lives.
-/
import Derived.Test.YtdbonlpkmncggaaKForL
import Derived.Test.YtdbonlpkmncggaaKForT
import Derived.Test.YtdbonlpkmncggaaKForW
import Derived.Test.YtdbonlpkmncggaaKForH
import Derived.Test.YtdbonlpkmncggaaJ2b
namespace Go.Proofs.Ytdbonlpkmncggaa
open Go.RowKit

def threeQ : TreeP := ⟨1, [⟨[1], 3, 1, 2, 3⟩, ⟨[], 0, 0, 0, 2⟩, ⟨[], 0, 0, 0, 1⟩]⟩
def oneQ : TreeP := ⟨1, [⟨[], 0, 0, 0, 1⟩]⟩
def twoG : List (TreeP × Int) := [(threeQ, 5), (oneQ, 3)]

theorem threeQ_B : treeB threeQ = true := by
  have q1 : Sub threeQ 1 2 0 2 := Sub.leaf (n := ⟨[], 0, 0, 0, 2⟩) rfl rfl
  have q2 : Sub threeQ 2 3 0 1 := Sub.leaf (n := ⟨[], 0, 0, 0, 1⟩) rfl rfl
  have q0 : Sub threeQ 0 3 (1 + max 0 0) 3 := Sub.node (n := ⟨[1], 3, 1, 2, 3⟩) rfl rfl rfl q1 rfl q2 rfl
  exact treeB_true.2 ⟨by decide, by decide, _, _, q0, by decide, by decide⟩

theorem oneQ_B : treeB oneQ = true := by
  have q0 : Sub oneQ 0 1 0 1 := Sub.leaf (n := ⟨[], 0, 0, 0, 1⟩) rfl rfl
  exact treeB_true.2 ⟨by decide, by decide, _, _, q0, by decide, by decide⟩

theorem isF_twos {l : List (TreeP × Int)} (h : ∀ p ∈ l, p = (threeQ, 5) ∨ p = (oneQ, 3)) (hl : l.length ≤ 16) : isF l = true := by
  have hd : ∀ p ∈ l, p.1.dim = 1 ∧ treeB p.1 = true ∧ bornB p.2 = true := by
    intro p hp
    rcases h p hp with rfl | rfl
    · exact ⟨rfl, threeQ_B, rfl⟩
    · exact ⟨rfl, oneQ_B, rfl⟩
  have hd0 : l ≠ [] → dim0 (l.map (·.1)) = 1 := by
    intro hne
    cases l with
    | nil => exact absurd rfl hne
    | cons p l => exact (hd p (by simp)).1
  unfold isF
  rw [decide_eq_true hl, Bool.true_and, List.all_eq_true]
  intro p hp
  obtain ⟨h1, h2, h3⟩ := hd p hp
  unfold stB okT
  rw [h2, h3, h1, hd0 (fun e => by rw [e] at hp; simp at hp)]
  rfl

theorem twoG_F : isF twoG = true := isF_twos (by simp [twoG]) (by decide)
theorem twoP_F : isF (twoG ++ [(threeQ, 5)]) = true := isF_twos (by simp [twoG]) (by decide)

theorem twoG_E {x : Int} (h : vecB [x] 1 = true) : askE twoG [x] = 0 := by
  unfold askE
  rw [twoG_F, if_neg (by decide), if_neg (by decide), show dim0 (twoG.map (·.1)) = 1 from rfl, h]
  rfl

theorem noG_E (x : List Int) : askE [] x = 4 := by
  unfold askE
  rw [show isF [] = true from isF_twos (by simp) (by decide)]
  rfl

theorem threeQ_V : lenV threeQ [2] = 2147483648 := by
  unfold lenV
  rw [show (wayL threeQ [2]).getLast? = some 1 from rfl]
  rfl
theorem oneQ_V : lenV oneQ [2] = 0 := by
  unfold lenV
  rw [show (wayL oneQ [2]).getLast? = some 0 from rfl]
  rfl
theorem twoG_V : sumV (twoG.map (·.1)) [2] = 2147483648 := by
  show sumI [lenV threeQ [2], lenV oneQ [2]] = _
  rw [threeQ_V, oneQ_V]
  rfl
theorem twoG_S : scP twoG [2] = 1073741824 ∧ scQ twoG [2] = 1 := by
  obtain ⟨h1, h2⟩ := scP_yes (twoG_E (x := 2) rfl)
  rw [twoG_V] at h1 h2
  rw [h1, h2]
  exact ⟨by decide +kernel, by decide +kernel⟩
theorem twoG_A : aloneV twoG [3] = 2 := by
  rw [aloneV_yes (twoG_E (x := 3) rfl)]
  rfl
theorem twoG_O : oldK twoG 2 = 1 := rfl
theorem twoG_AE : ageE twoG 7 = 0 := by
  unfold ageE
  rw [twoG_F]
  rfl
theorem twoG_AL : ageL twoG 7 = [2, 4] := by rw [ageL_yes twoG_AE]; rfl
theorem twoG_PE : fputE twoG 2 (threeQ, 5) = 0 := by
  unfold fputE
  rw [twoG_F, show putF twoG (2 : Int).toNat (threeQ, 5) = twoG ++ [(threeQ, 5)] from rfl, twoP_F]
  rfl
theorem twoG_PL : fputL twoG 2 (threeQ, 5) = twoG ++ [(threeQ, 5)] := by rw [fputL_yes twoG_PE]; rfl
theorem twoG_PS : sameF (twoG ++ [(threeQ, 5)]) (twoG ++ [(threeQ, 5)]) = true := sameF_eq.2 rfl
theorem twoG_PN : sameF (twoG ++ [(threeQ, 5)]) twoG = false := by
  cases h : sameF (twoG ++ [(threeQ, 5)]) twoG with
  | false => rfl
  | true =>
    have := congrArg List.length (sameF_eq.1 h)
    exact absurd this (by decide)
theorem twoG_small : smallF twoG := ⟨by decide, by simp [twoG, smallT, threeQ, oneQ]⟩
theorem twoP_small : smallF (twoG ++ [(threeQ, 5)]) := ⟨by decide, by simp [twoG, smallT, threeQ, oneQ]⟩
theorem threeQ_small : smallT threeQ := by simp [smallT, threeQ]

theorem twoG_at {U : World} {H : Nat} (i1 : Ints .i64 U (.slice (some ⟨H, 0, none⟩) 1 1) [1])
    (r1 : RowAt U (H + 1) 85 #[.slice (some ⟨H, 0, none⟩) 1 1, .int .i64 3, .int .i64 1, .int .i64 2, .int .i64 3, .slice none 0 0, .int .i64 0, .int .i64 0, .int .i64 0, .int .i64 2, .slice none 0 0, .int .i64 0, .int .i64 0, .int .i64 0, .int .i64 1])
    (r3 : RowAt U (H + 1 + 1 + 1) 85 #[.slice none 0 0, .int .i64 0, .int .i64 0, .int .i64 0, .int .i64 1])
    (r4 : RowAt U (H + 1 + 1 + 1 + 1) 41 #[.int .i64 1, .slice (some ⟨H + 1, 0, none⟩) 3 3, .int .i64 5, .int .i64 1, .slice (some ⟨H + 1 + 1 + 1, 0, none⟩) 1 1, .int .i64 3]) :
    GrownsR U (.slice (some ⟨H + 1 + 1 + 1 + 1, 0, none⟩) 2 2) twoG := by
  have n3 : NodesR U (.slice (some ⟨H + 1, 0, none⟩) 3 3) threeQ.nodes := by
    refine ⟨_, _, rfl, by decide, by decide, by decide, fun i n hi => ?_⟩
    match i, hi with
    | 0, hi =>
      obtain rfl : (⟨[1], 3, 1, 2, 3⟩ : NodeP) = n := by simpa [threeQ] using hi
      exact ⟨_, _, rfl, r1.lt, _, i1, (r1.cell _).trans rfl, (r1.cell _).trans rfl, (r1.cell _).trans rfl, (r1.cell _).trans rfl, (r1.cell _).trans rfl⟩
    | 1, hi =>
      obtain rfl : (⟨[], 0, 0, 0, 2⟩ : NodeP) = n := by simpa [threeQ] using hi
      exact ⟨_, _, rfl, r1.lt, _, ints_nil _ _ none 0 (by omega), (r1.cell _).trans rfl, (r1.cell _).trans rfl, (r1.cell _).trans rfl, (r1.cell _).trans rfl, (r1.cell _).trans rfl⟩
    | 2, hi =>
      obtain rfl : (⟨[], 0, 0, 0, 1⟩ : NodeP) = n := by simpa [threeQ] using hi
      exact ⟨_, _, rfl, r1.lt, _, ints_nil _ _ none 0 (by omega), (r1.cell _).trans rfl, (r1.cell _).trans rfl, (r1.cell _).trans rfl, (r1.cell _).trans rfl, (r1.cell _).trans rfl⟩
    | i + 3, hi => simp [threeQ] at hi
  have n1 : NodesR U (.slice (some ⟨H + 1 + 1 + 1, 0, none⟩) 1 1) oneQ.nodes := by
    refine ⟨_, _, rfl, by decide, by decide, by decide, fun i n hi => ?_⟩
    match i, hi with
    | 0, hi =>
      obtain rfl : (⟨[], 0, 0, 0, 1⟩ : NodeP) = n := by simpa [oneQ] using hi
      exact ⟨_, _, rfl, r3.lt, _, ints_nil _ _ none 0 (by omega), (r3.cell _).trans rfl, (r3.cell _).trans rfl, (r3.cell _).trans rfl, (r3.cell _).trans rfl, (r3.cell _).trans rfl⟩
    | i + 1, hi => simp [oneQ] at hi
  refine ⟨_, _, rfl, by decide, by decide, by decide, fun i p hi => ?_⟩
  match i, hi with
  | 0, hi =>
    obtain rfl : ((threeQ, 5) : TreeP × Int) = p := by simpa [twoG] using hi
    exact ⟨_, _, _, rfl, r4.lt, (r4.cell _).trans rfl, (r4.cell _).trans rfl, (r4.cell _).trans rfl, by unfold Ok64; omega, n3⟩
  | 1, hi =>
    obtain rfl : ((oneQ, 3) : TreeP × Int) = p := by simpa [twoG] using hi
    exact ⟨_, _, _, rfl, r4.lt, (r4.cell _).trans rfl, (r4.cell _).trans rfl, (r4.cell _).trans rfl, by unfold Ok64; omega, n1⟩
  | i + 2, hi => simp [twoG] at hi

set_option maxRecDepth 100000 in
set_option maxHeartbeats 4000000 in
theorem twoG_any (w : World) : Calls Try.prog 47 #[] w fun e w' => ∃ b cc, e = .returned (.slice (some ⟨b, 0, none⟩) 2 cc) ∧ GrownsR w' (.slice (some ⟨b, 0, none⟩) 2 cc) twoG ∧ Below w.heap.size w w' := by
  go_enter Try.func47, Try.ntmps47
  go_wp2_with fail
  go_ret
  refine ⟨_, _, rfl, twoG_at (H := w.heap.size) ((ints1 1 w 3 w.heap.size rfl).below (by (repeat (first | with_reducible exact Below.refl _ _ | with_reducible refine Bs ?_ | with_reducible refine Ba ?_ | with_reducible refine Bd ?_ | with_reducible refine Bn ?_)))) ?_ ?_ (row_new (by simp)), by (repeat (first | with_reducible exact Below.refl _ _ | with_reducible refine Bs ?_ | with_reducible refine Ba ?_ | with_reducible refine Bd ?_ | with_reducible refine Bn ?_))⟩
  · exact (Below.heap_alloc _ _ _ (by simp)).trans ((Below.heap_alloc _ _ _ (by simp)).trans ((Below.heap_alloc _ _ _ (by simp)).trans (row_new (by simp))))
  · exact (Below.heap_alloc _ _ _ (by simp)).trans (row_new (by simp))

set_option maxRecDepth 100000 in
set_option maxHeartbeats 8000000 in
theorem lives14_any (w : World) : Calls Try.prog 10 #[] w fun e w' => e = .returned (.bool true) ∧ Below w.heap.size w w' := by
  go_enter Try.func10, Try.ntmps10
  go_wp2_with fail
  (with_reducible refine (twoG_any _).mono ?_); rintro e w1 ⟨b, cc, rfl, g1, b1⟩; have s1 : w.heap.size ≤ w1.heap.size := sz b1; have B1 := Lib.hid (Bc (B := w.heap.size) (a := w) (by (repeat (first | with_reducible exact Below.refl _ _ | with_reducible refine Bs ?_ | with_reducible refine Ba ?_ | with_reducible refine Bd ?_ | with_reducible refine Bn ?_))) b1); clear b1
  have G1 := Lib.hid g1
  have hg2 := growns_at (i := 0) g1 (p := (threeQ, 5)) rfl
  obtain ⟨_, _, na, nc, e, hb, c0, c1, c2, _, hn⟩ := hg2
  injection e with e
  injection e with e1 e2 e3
  subst e1 e2
  rw [Nat.zero_mul, Nat.add_zero] at c0 c1 c2
  change w1.cell? ⟨b, 0, none⟩ = some (.int .i64 1) at c0
  change w1.cell? ⟨b, 0 + 1, none⟩ = some (.slice na 3 nc) at c1
  change w1.cell? ⟨b, 0 + 2, none⟩ = some (.int .i64 5) at c2
  rw [Nat.zero_add] at c1 c2
  have HV := Lib.hid (show GrownV w1 (.agg #[.int .i64 1, .slice na 3 nc, .int .i64 5]) (threeQ, 5) from ⟨_, rfl, by unfold Ok64; omega, hn⟩)
  have h2 := fun (W : World) (hW : GrownsR W (.slice (some ⟨b, 0, none⟩) 2 cc) twoG) vx (hX : Ints .i64 W vx [2]) => fscore_any _ vx twoG [2] W hW hX
  rw [twoG_S.1, twoG_S.2, twoG_E rfl] at h2
  have h3 := fun (W : World) (hW : GrownsR W (.slice (some ⟨b, 0, none⟩) 2 cc) twoG) vx (hX : Ints .i64 W vx [3]) => falone_any _ vx twoG [3] W hW hX
  rw [twoG_A, twoG_E rfl] at h3
  have h4 := fun (W : World) (hW : GrownsR W (.slice (some ⟨b, 0, none⟩) 2 cc) twoG) => oldest_any _ twoG W hW
  rw [show twoG.length = 2 from rfl, twoG_O] at h4
  have h5 := fun (W : World) (hW : GrownsR W (.slice (some ⟨b, 0, none⟩) 2 cc) twoG) => ages_any _ twoG 7 W hW (by unfold Ok64; omega)
  rw [twoG_AE, twoG_AL] at h5
  have h6 := fun (W : World) (hW : GrownsR W (.slice (some ⟨b, 0, none⟩) 2 cc) twoG) (hV : GrownV W (.agg #[.int .i64 1, .slice na 3 nc, .int .i64 5]) (threeQ, 5)) => fput_any' _ _ twoG 2 (threeQ, 5) W hW hV twoG_small threeQ_small
  rw [twoG_PE, twoG_PL] at h6
  have h7 := fun (W : World) vx (hX : Ints .i64 W vx [2]) => fscore_any (.slice none 0 0) vx [] [2] W (growns_nil _ _ (by omega)) hX
  rw [(scP_no (l := []) (x := [2]) (by rw [noG_E]; decide)).1, (scP_no (l := []) (x := [2]) (by rw [noG_E]; decide)).2, noG_E] at h7
  have h8 := fun (W : World) v (hW : GrownsR W v (twoG ++ [(threeQ, 5)])) => fis_any v _ W hW
  rw [twoP_F] at h8
  have h9 := fun (W : World) v (hW : GrownsR W v (twoG ++ [(threeQ, 5)])) => ftrees_any v _ W hW twoP_small
  have h10 := fun (W : World) v (hW : GrownsR W v (twoG ++ [(threeQ, 5)])) => fsame_any v v _ _ W hW hW
  rw [twoG_PS] at h10
  have h11 := fun (W : World) v (hW : GrownsR W v (twoG ++ [(threeQ, 5)])) (hG : GrownsR W (.slice (some ⟨b, 0, none⟩) 2 cc) twoG) => fsame_any v _ _ _ W hW hG
  rw [twoG_PN] at h11
  have H2 := Lib.hid h2; have H3 := Lib.hid h3; have H4 := Lib.hid h4; have H5 := Lib.hid h5; have H6 := Lib.hid h6; have H7 := Lib.hid h7; have H8 := Lib.hid h8; have H9 := Lib.hid h9; have H10 := Lib.hid h10; have H11 := Lib.hid h11
  clear h2 h3 h4 h5 h6 h7 h8 h9 h10 h11 g1 hn
  go_wp2_with fail
  (with_reducible refine (H2.out _ (G1.out.below (by (repeat (first | with_reducible exact Below.refl _ _ | with_reducible refine Bs ?_ | with_reducible refine Ba ?_ | with_reducible refine Bd ?_ | with_reducible refine Bn ?_)))) _ (ints1 _ _ _ _ (by simp))).mono ?_); rintro e w2 ⟨rfl, b2⟩; have s2 : w1.heap.size + 1 ≤ w2.heap.size := sz b2; have B2 := Lib.hid (Bc (B := w.heap.size) (a := w) (by (repeat (first | with_reducible exact Below.refl _ _ | with_reducible refine Bs ?_ | with_reducible refine Ba ?_ | with_reducible refine Bd ?_ | with_reducible refine Bn ?_ | with_reducible refine Bt B1.out ?_))) b2); obtain ⟨c2_0, c2_1, c2_2⟩ := k3 (b) (.int .i64 1) (.slice na 3 nc) (.int .i64 5) b2 (by and_intros <;> go_simp); obtain ⟨l2_0, n2_0, m2_0⟩ := lnm (show b < w2.heap.size by omega); have G1 := Lib.hid ((G1.out.below (by (repeat (first | with_reducible exact Below.refl _ _ | with_reducible refine Bs ?_ | with_reducible refine Ba ?_ | with_reducible refine Bd ?_ | with_reducible refine Bn ?_)))).below b2); have HV := Lib.hid ((HV.out.below (by (repeat (first | with_reducible exact Below.refl _ _ | with_reducible refine Bs ?_ | with_reducible refine Ba ?_ | with_reducible refine Bd ?_ | with_reducible refine Bn ?_)))).below b2); clear b2
  go_wp2_with fail
  (with_reducible refine (H3.out _ (G1.out.below (by (repeat (first | with_reducible exact Below.refl _ _ | with_reducible refine Bs ?_ | with_reducible refine Ba ?_ | with_reducible refine Bd ?_ | with_reducible refine Bn ?_)))) _ (ints1 _ _ _ _ (by simp))).mono ?_); rintro e w3 ⟨rfl, b3⟩; have s3 : w2.heap.size + 1 + 1 ≤ w3.heap.size := sz b3; have B3 := Lib.hid (Bc (B := w.heap.size) (a := w) (by (repeat (first | with_reducible exact Below.refl _ _ | with_reducible refine Bs ?_ | with_reducible refine Ba ?_ | with_reducible refine Bd ?_ | with_reducible refine Bn ?_ | with_reducible refine Bt B2.out ?_))) b3); obtain ⟨c3_0, c3_1, c3_2⟩ := k3 (b) (.int .i64 1) (.slice na 3 nc) (.int .i64 5) b3 (by and_intros <;> go_simp); obtain ⟨c3_3, c3_4⟩ := k2 (w2.heap.size) (.int .i64 1073741824) (.int .i64 1) b3 (by and_intros <;> go_simp); obtain ⟨l3_0, n3_0, m3_0⟩ := lnm (show b < w3.heap.size by omega); obtain ⟨l3_1, n3_1, m3_1⟩ := lnm (show w2.heap.size < w3.heap.size by omega); have G1 := Lib.hid ((G1.out.below (by (repeat (first | with_reducible exact Below.refl _ _ | with_reducible refine Bs ?_ | with_reducible refine Ba ?_ | with_reducible refine Bd ?_ | with_reducible refine Bn ?_)))).below b3); have HV := Lib.hid ((HV.out.below (by (repeat (first | with_reducible exact Below.refl _ _ | with_reducible refine Bs ?_ | with_reducible refine Ba ?_ | with_reducible refine Bd ?_ | with_reducible refine Bn ?_)))).below b3); clear b3
  go_wp2_with fail
  (with_reducible refine (H4.out _ (G1.out.below (by (repeat (first | with_reducible exact Below.refl _ _ | with_reducible refine Bs ?_ | with_reducible refine Ba ?_ | with_reducible refine Bd ?_ | with_reducible refine Bn ?_))))).mono ?_); rintro e w4 ⟨rfl, b4⟩; have s4 : w3.heap.size ≤ w4.heap.size := sz b4; have B4 := Lib.hid (Bc (B := w.heap.size) (a := w) (by (repeat (first | with_reducible exact Below.refl _ _ | with_reducible refine Bs ?_ | with_reducible refine Ba ?_ | with_reducible refine Bd ?_ | with_reducible refine Bn ?_ | with_reducible refine Bt B3.out ?_))) b4); obtain ⟨c4_0, c4_1, c4_2⟩ := k3 (b) (.int .i64 1) (.slice na 3 nc) (.int .i64 5) b4 (by and_intros <;> go_simp); obtain ⟨c4_3, c4_4⟩ := k2 (w2.heap.size) (.int .i64 1073741824) (.int .i64 1) b4 (by and_intros <;> go_simp); obtain ⟨l4_0, n4_0, m4_0⟩ := lnm (show b < w4.heap.size by omega); obtain ⟨l4_1, n4_1, m4_1⟩ := lnm (show w2.heap.size < w4.heap.size by omega); have G1 := Lib.hid ((G1.out.below (by (repeat (first | with_reducible exact Below.refl _ _ | with_reducible refine Bs ?_ | with_reducible refine Ba ?_ | with_reducible refine Bd ?_ | with_reducible refine Bn ?_)))).below b4); have HV := Lib.hid ((HV.out.below (by (repeat (first | with_reducible exact Below.refl _ _ | with_reducible refine Bs ?_ | with_reducible refine Ba ?_ | with_reducible refine Bd ?_ | with_reducible refine Bn ?_)))).below b4); clear b4
  go_wp2_with fail
  (with_reducible refine (H5.out _ (G1.out.below (by (repeat (first | with_reducible exact Below.refl _ _ | with_reducible refine Bs ?_ | with_reducible refine Ba ?_ | with_reducible refine Bd ?_ | with_reducible refine Bn ?_))))).mono ?_); rintro e w5 ⟨v5, rfl, i5, b5⟩; have s5 : w4.heap.size ≤ w5.heap.size := sz b5; have B5 := Lib.hid (Bc (B := w.heap.size) (a := w) (by (repeat (first | with_reducible exact Below.refl _ _ | with_reducible refine Bs ?_ | with_reducible refine Ba ?_ | with_reducible refine Bd ?_ | with_reducible refine Bn ?_ | with_reducible refine Bt B4.out ?_))) b5); obtain ⟨c5_0, c5_1, c5_2⟩ := k3 (b) (.int .i64 1) (.slice na 3 nc) (.int .i64 5) b5 (by and_intros <;> go_simp); obtain ⟨c5_3, c5_4⟩ := k2 (w2.heap.size) (.int .i64 1073741824) (.int .i64 1) b5 (by and_intros <;> go_simp); obtain ⟨l5_0, n5_0, m5_0⟩ := lnm (show b < w5.heap.size by omega); obtain ⟨l5_1, n5_1, m5_1⟩ := lnm (show w2.heap.size < w5.heap.size by omega); have G1 := Lib.hid ((G1.out.below (by (repeat (first | with_reducible exact Below.refl _ _ | with_reducible refine Bs ?_ | with_reducible refine Ba ?_ | with_reducible refine Bd ?_ | with_reducible refine Bn ?_)))).below b5); have HV := Lib.hid ((HV.out.below (by (repeat (first | with_reducible exact Below.refl _ _ | with_reducible refine Bs ?_ | with_reducible refine Ba ?_ | with_reducible refine Bd ?_ | with_reducible refine Bn ?_)))).below b5); clear b5
  have I5 := Lib.hid i5
  obtain ⟨ia, ic, rfl⟩ := i5.shape
  rw [show ([2, 4] : List Int).length = 2 from rfl] at I5 ⊢
  clear i5
  go_wp2_with fail
  (with_reducible refine (H6.out _ (G1.out.below (by (repeat (first | with_reducible exact Below.refl _ _ | with_reducible refine Bs ?_ | with_reducible refine Ba ?_ | with_reducible refine Bd ?_ | with_reducible refine Bn ?_)))) (HV.out.below (by (repeat (first | with_reducible exact Below.refl _ _ | with_reducible refine Bs ?_ | with_reducible refine Ba ?_ | with_reducible refine Bd ?_ | with_reducible refine Bn ?_))))).mono ?_); rintro e w6 ⟨v6, rfl, g6, b6⟩; have s6 : w5.heap.size ≤ w6.heap.size := sz b6; have B6 := Lib.hid (Bc (B := w.heap.size) (a := w) (by (repeat (first | with_reducible exact Below.refl _ _ | with_reducible refine Bs ?_ | with_reducible refine Ba ?_ | with_reducible refine Bd ?_ | with_reducible refine Bn ?_ | with_reducible refine Bt B5.out ?_))) b6); obtain ⟨c6_0, c6_1, c6_2⟩ := k3 (b) (.int .i64 1) (.slice na 3 nc) (.int .i64 5) b6 (by and_intros <;> go_simp); obtain ⟨c6_3, c6_4⟩ := k2 (w2.heap.size) (.int .i64 1073741824) (.int .i64 1) b6 (by and_intros <;> go_simp); obtain ⟨l6_0, n6_0, m6_0⟩ := lnm (show b < w6.heap.size by omega); obtain ⟨l6_1, n6_1, m6_1⟩ := lnm (show w2.heap.size < w6.heap.size by omega); have G1 := Lib.hid ((G1.out.below (by (repeat (first | with_reducible exact Below.refl _ _ | with_reducible refine Bs ?_ | with_reducible refine Ba ?_ | with_reducible refine Bd ?_ | with_reducible refine Bn ?_)))).below b6); have I5 := Lib.hid ((I5.out.below (by (repeat (first | with_reducible exact Below.refl _ _ | with_reducible refine Bs ?_ | with_reducible refine Ba ?_ | with_reducible refine Bd ?_ | with_reducible refine Bn ?_)))).below b6); clear b6
  have G6 := Lib.hid g6
  obtain ⟨pa, pc, rfl⟩ := g6.shape
  have e6 : (twoG ++ [(threeQ, 5)]).length = 3 := rfl
  rw [e6] at G6 ⊢
  clear e6
  clear g6
  go_wp2_with fail
  (with_reducible refine (H7.out _ _ (ints1 _ _ _ _ (by simp))).mono ?_); rintro e w7 ⟨rfl, b7⟩; have s7 : w6.heap.size + 1 ≤ w7.heap.size := sz b7; have B7 := Lib.hid (Bc (B := w.heap.size) (a := w) (by (repeat (first | with_reducible exact Below.refl _ _ | with_reducible refine Bs ?_ | with_reducible refine Ba ?_ | with_reducible refine Bd ?_ | with_reducible refine Bn ?_ | with_reducible refine Bt B6.out ?_))) b7); obtain ⟨c7_0, c7_1, c7_2⟩ := k3 (b) (.int .i64 1) (.slice na 3 nc) (.int .i64 5) b7 (by and_intros <;> go_simp); obtain ⟨c7_3, c7_4⟩ := k2 (w2.heap.size) (.int .i64 1073741824) (.int .i64 1) b7 (by and_intros <;> go_simp); obtain ⟨l7_0, n7_0, m7_0⟩ := lnm (show b < w7.heap.size by omega); obtain ⟨l7_1, n7_1, m7_1⟩ := lnm (show w2.heap.size < w7.heap.size by omega); have G1 := Lib.hid ((G1.out.below (by (repeat (first | with_reducible exact Below.refl _ _ | with_reducible refine Bs ?_ | with_reducible refine Ba ?_ | with_reducible refine Bd ?_ | with_reducible refine Bn ?_)))).below b7); have I5 := Lib.hid ((I5.out.below (by (repeat (first | with_reducible exact Below.refl _ _ | with_reducible refine Bs ?_ | with_reducible refine Ba ?_ | with_reducible refine Bd ?_ | with_reducible refine Bn ?_)))).below b7); have G6 := Lib.hid ((G6.out.below (by (repeat (first | with_reducible exact Below.refl _ _ | with_reducible refine Bs ?_ | with_reducible refine Ba ?_ | with_reducible refine Bd ?_ | with_reducible refine Bn ?_)))).below b7); clear b7
  go_wp2_with fail
  refine (same_any _ _ [2, 4] [2, 4] _ (I5.out.below (by (repeat (first | with_reducible exact Below.refl _ _ | with_reducible refine Bs ?_ | with_reducible refine Ba ?_ | with_reducible refine Bd ?_ | with_reducible refine Bn ?_)))) (ints2 _ _ _ _ _ (by simp))).mono ?_
  rintro e w8 ⟨rfl, d8, rfl⟩
  go_wp2_with fail
  (with_reducible refine (H8.out _ _ (G6.out.below (by (repeat (first | with_reducible exact Below.refl _ _ | with_reducible refine Bs ?_ | with_reducible refine Ba ?_ | with_reducible refine Bd ?_ | with_reducible refine Bn ?_))))).mono ?_); rintro e w9 ⟨rfl, b9⟩; have s9 : w7.heap.size + 1 + 1 ≤ w9.heap.size := sz b9; have B9 := Lib.hid (Bc (B := w.heap.size) (a := w) (by (repeat (first | with_reducible exact Below.refl _ _ | with_reducible refine Bs ?_ | with_reducible refine Ba ?_ | with_reducible refine Bd ?_ | with_reducible refine Bn ?_ | with_reducible refine Bt B7.out ?_))) b9); have G1 := Lib.hid ((G1.out.below (by (repeat (first | with_reducible exact Below.refl _ _ | with_reducible refine Bs ?_ | with_reducible refine Ba ?_ | with_reducible refine Bd ?_ | with_reducible refine Bn ?_)))).below b9); have G6 := Lib.hid ((G6.out.below (by (repeat (first | with_reducible exact Below.refl _ _ | with_reducible refine Bs ?_ | with_reducible refine Ba ?_ | with_reducible refine Bd ?_ | with_reducible refine Bn ?_)))).below b9); clear b9
  go_wp2_with fail
  (with_reducible refine (H9.out _ _ (G6.out.below (by (repeat (first | with_reducible exact Below.refl _ _ | with_reducible refine Bs ?_ | with_reducible refine Ba ?_ | with_reducible refine Bd ?_ | with_reducible refine Bn ?_))))).mono ?_); rintro e w10 ⟨v10, rfl, t10, b10⟩; have s10 : w9.heap.size ≤ w10.heap.size := sz b10; have B10 := Lib.hid (Bc (B := w.heap.size) (a := w) (by (repeat (first | with_reducible exact Below.refl _ _ | with_reducible refine Bs ?_ | with_reducible refine Ba ?_ | with_reducible refine Bd ?_ | with_reducible refine Bn ?_ | with_reducible refine Bt B9.out ?_))) b10); have G1 := Lib.hid ((G1.out.below (by (repeat (first | with_reducible exact Below.refl _ _ | with_reducible refine Bs ?_ | with_reducible refine Ba ?_ | with_reducible refine Bd ?_ | with_reducible refine Bn ?_)))).below b10); have G6 := Lib.hid ((G6.out.below (by (repeat (first | with_reducible exact Below.refl _ _ | with_reducible refine Bs ?_ | with_reducible refine Ba ?_ | with_reducible refine Bd ?_ | with_reducible refine Bn ?_)))).below b10); clear b10
  obtain ⟨ta, tc, rfl, _⟩ := t10
  have e10 : ((twoG ++ [((threeQ, 5) : TreeP × Int)]).map (fun p => p.1)).length = 3 := rfl
  rw [e10]
  clear e10
  go_wp2_with fail
  (with_reducible refine (H10.out _ _ (G6.out.below (by (repeat (first | with_reducible exact Below.refl _ _ | with_reducible refine Bs ?_ | with_reducible refine Ba ?_ | with_reducible refine Bd ?_ | with_reducible refine Bn ?_))))).mono ?_); rintro e w11 ⟨rfl, b11⟩; have s11 : w10.heap.size ≤ w11.heap.size := sz b11; have B11 := Lib.hid (Bc (B := w.heap.size) (a := w) (by (repeat (first | with_reducible exact Below.refl _ _ | with_reducible refine Bs ?_ | with_reducible refine Ba ?_ | with_reducible refine Bd ?_ | with_reducible refine Bn ?_ | with_reducible refine Bt B10.out ?_))) b11); have G1 := Lib.hid ((G1.out.below (by (repeat (first | with_reducible exact Below.refl _ _ | with_reducible refine Bs ?_ | with_reducible refine Ba ?_ | with_reducible refine Bd ?_ | with_reducible refine Bn ?_)))).below b11); have G6 := Lib.hid ((G6.out.below (by (repeat (first | with_reducible exact Below.refl _ _ | with_reducible refine Bs ?_ | with_reducible refine Ba ?_ | with_reducible refine Bd ?_ | with_reducible refine Bn ?_)))).below b11); clear b11
  go_wp2_with fail
  (with_reducible refine (H11.out _ _ (G6.out.below (by (repeat (first | with_reducible exact Below.refl _ _ | with_reducible refine Bs ?_ | with_reducible refine Ba ?_ | with_reducible refine Bd ?_ | with_reducible refine Bn ?_)))) (G1.out.below (by (repeat (first | with_reducible exact Below.refl _ _ | with_reducible refine Bs ?_ | with_reducible refine Ba ?_ | with_reducible refine Bd ?_ | with_reducible refine Bn ?_))))).mono ?_); rintro e w12 ⟨rfl, b12⟩; have s12 : w11.heap.size ≤ w12.heap.size := sz b12; have B12 := Lib.hid (Bc (B := w.heap.size) (a := w) (by (repeat (first | with_reducible exact Below.refl _ _ | with_reducible refine Bs ?_ | with_reducible refine Ba ?_ | with_reducible refine Bd ?_ | with_reducible refine Bn ?_ | with_reducible refine Bt B11.out ?_))) b12); clear b12
  go_wp2_with fail
  go_ret
  exact ⟨rfl, by (repeat (first | with_reducible exact Below.refl _ _ | with_reducible refine Bs ?_ | with_reducible refine Ba ?_ | with_reducible refine Bd ?_ | with_reducible refine Bn ?_ | with_reducible refine Bt B12.out ?_))⟩
end Go.Proofs.Ytdbonlpkmncggaa
