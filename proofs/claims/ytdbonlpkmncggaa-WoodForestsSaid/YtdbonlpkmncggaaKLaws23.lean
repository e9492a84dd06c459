/-
  Laws23: What the laws of layer 23 share: copselaw23.lives.
-/
import Derived.Test.YtdbonlpkmncggaaKWoodK
import Derived.Test.YtdbonlpkmncggaaKWoodC
import Derived.Test.YtdbonlpkmncggaaKForT
namespace Go.Proofs.Ytdbonlpkmncggaa
open Go.RowKit

def threeW : TreeP := ⟨1, [⟨[1], 3, 1, 2, 3⟩, ⟨[], 0, 0, 0, 2⟩, ⟨[], 0, 0, 0, 1⟩]⟩
def oneW : List (TreeP × Int) := [(threeW, 5)]
def bytesW : List Int := [1, 0, 2, 6, 2, 1, 1, 5, 1, 0, 2, 6, 2, 1]

theorem threeW_B : treeB threeW = true := by
  have q1 : Sub threeW 1 2 0 2 := Sub.leaf (n := ⟨[], 0, 0, 0, 2⟩) rfl rfl
  have q2 : Sub threeW 2 3 0 1 := Sub.leaf (n := ⟨[], 0, 0, 0, 1⟩) rfl rfl
  have q0 : Sub threeW 0 3 (1 + max 0 0) 3 := Sub.node (n := ⟨[1], 3, 1, 2, 3⟩) rfl rfl rfl q1 rfl q2 rfl
  exact treeB_true.2 ⟨by decide, by decide, _, _, q0, by decide, by decide⟩

theorem oneW_F : isF oneW = true := by
  unfold isF
  rw [decide_eq_true (show oneW.length ≤ 16 by decide), Bool.true_and, List.all_eq_true]
  intro p hp
  obtain rfl : p = (threeW, 5) := by simpa [oneW] using hp
  unfold stB okT
  rw [threeW_B]
  rfl

theorem threeW_b : treeBy threeW = [1, 0, 2, 6, 2, 1] := by
  unfold treeBy
  rw [if_pos threeW_B]
  decide +kernel

theorem oneW_b : forestBy oneW = [1, 5, 1, 0, 2, 6, 2, 1] := by
  unfold forestBy
  rw [if_pos oneW_F]
  show putsU 1 ++ (grownBy' (threeW, 5) ++ []) = _
  unfold grownBy'
  rw [threeW_b]
  decide +kernel

theorem bytesW_all : AllB bytesW := by
  intro x hx
  simp [bytesW] at hx
  omega

theorem bytesW_1 : gT bytesW 0 0 = (threeW, 6, 0) := by
  have := gT_puts threeW_B [] (forestBy oneW)
  rw [threeW_b, oneW_b] at this
  exact this

theorem bytesW_2 : gF bytesW 6 0 = (oneW, 14, 0) := by
  have := gF_puts oneW_F (treeBy threeW) []
  rw [threeW_b, oneW_b] at this
  exact this

theorem bytesW_3 : gT bytesW 14 0 = (tree0, 14, 210) := gT_bad (d := 0) (by rfl) (by decide)

theorem readN_nil (w : World) (most : Int) : Calls Try.prog 72 #[.pointer none, .int .i64 most] w fun e w' => e = .returned (.int .i64 0) ∧ w = w' := by
  go_enter_defers Try.func72, Try.ntmps72
  go_wp2_with fail
  refine (dead_nil w).mono ?_
  rintro e w1 ⟨rfl, rfl⟩
  go_wp2
  exact ⟨_, results_tmp rfl _ _ _, rfl, rfl⟩

theorem readW_nil (w : World) : Calls Try.prog 44 #[.pointer none] w fun e w' => e = .returned (.slice none 0 0) ∧ Below w.heap.size w w' := by
  go_enter Try.func44, Try.ntmps44
  go_wp2_with fail
  refine (readN_nil w 16).mono ?_
  rintro e w1 ⟨rfl, rfl⟩
  go_wp2_with fail
  go_loopw [3, 4, 5] (fun fv nv _ wr => fv = .slice none 0 0 ∧ nv = .int .i64 0 ∧ Below w.heap.size w wr) (fun _ _ _ _ => 0)
  case atStart => exact ⟨rfl, rfl, by (repeat (first | with_reducible exact Below.refl _ _ | with_reducible refine Bs ?_ | with_reducible refine Ba ?_ | with_reducible refine Bd ?_ | with_reducible refine Bn ?_))⟩
  case round =>
    obtain ⟨rfl, rfl, hb⟩ := hrel
    rename World => wi
    have BI := Lib.hid hb
    clear hb
    go_wp2_with fail
    refine (err_nil _).mono ?_
    rintro e w1 ⟨rfl, rfl⟩
    go_wp2_with fail
    refine (err_nil _).mono ?_
    rintro e w1 ⟨rfl, rfl⟩
    go_wp2_with fail
    go_ret
    exact ⟨rfl, by (repeat (first | with_reducible exact Below.refl _ _ | with_reducible refine Bs ?_ | with_reducible refine Ba ?_ | with_reducible refine Bd ?_ | with_reducible refine Bn ?_ | with_reducible refine Bt BI.out ?_))⟩

theorem threeW_at {U : World} {H : Nat} (i1 : Ints .i64 U (.slice (some ⟨H, 0, none⟩) 1 1) [1])
    (r1 : RowAt U (H + 1) 85 #[.slice (some ⟨H, 0, none⟩) 1 1, .int .i64 3, .int .i64 1, .int .i64 2, .int .i64 3, .slice none 0 0, .int .i64 0, .int .i64 0, .int .i64 0, .int .i64 2, .slice none 0 0, .int .i64 0, .int .i64 0, .int .i64 0, .int .i64 1]) : NodesR U (.slice (some ⟨H + 1, 0, none⟩) 3 3) threeW.nodes := by
  refine ⟨_, _, rfl, by decide, by decide, by decide, fun i n hi => ?_⟩
  match i, hi with
  | 0, hi =>
    obtain rfl : (⟨[1], 3, 1, 2, 3⟩ : NodeP) = n := by simpa [threeW] using hi
    exact ⟨_, _, rfl, r1.lt, _, i1, (r1.cell _).trans rfl, (r1.cell _).trans rfl, (r1.cell _).trans rfl, (r1.cell _).trans rfl, (r1.cell _).trans rfl⟩
  | 1, hi =>
    obtain rfl : (⟨[], 0, 0, 0, 2⟩ : NodeP) = n := by simpa [threeW] using hi
    exact ⟨_, _, rfl, r1.lt, _, ints_nil _ _ none 0 (by omega), (r1.cell _).trans rfl, (r1.cell _).trans rfl, (r1.cell _).trans rfl, (r1.cell _).trans rfl, (r1.cell _).trans rfl⟩
  | 2, hi =>
    obtain rfl : (⟨[], 0, 0, 0, 1⟩ : NodeP) = n := by simpa [threeW] using hi
    exact ⟨_, _, rfl, r1.lt, _, ints_nil _ _ none 0 (by omega), (r1.cell _).trans rfl, (r1.cell _).trans rfl, (r1.cell _).trans rfl, (r1.cell _).trans rfl, (r1.cell _).trans rfl⟩
  | i + 3, hi => simp [threeW] at hi

theorem new86 (W : World) (T : TypeId) (b : Nat) (hb : b = W.heap.size) : Ints .u8 (W.alloc (.cells #[.int .u8 1, .int .u8 0, .int .u8 2, .int .u8 6, .int .u8 2, .int .u8 1] T)) (.slice (some ⟨b, 0, none⟩) 6 6) [1, 0, 2, 6, 2, 1] := by
  subst hb
  exact Ints.new .u8 W T #[.int .u8 1, .int .u8 0, .int .u8 2, .int .u8 6, .int .u8 2, .int .u8 1] _ 6 6 rfl rfl (by omega) (by omega)

theorem new86d (W : World) (T : TypeId) (b : Nat) (hb : b = W.heap.size) : Ints .u8 (W.alloc (.cells #[.int .u8 1, .int .u8 0, .int .u8 2, .int .u8 6, .int .u8 2, .int .u8 1] T)).drew (.slice (some ⟨b, 0, none⟩) 6 6) [1, 0, 2, 6, 2, 1] := (new86 W T b hb).drew

theorem oneW_at {U : World} {g : Nat} {nv : Value} (hn : NodesR U nv threeW.nodes) (r : RowAt U g 41 #[.int .i64 1, nv, .int .i64 5]) : GrownsR U (.slice (some ⟨g, 0, none⟩) 1 1) oneW := by
  refine ⟨_, _, rfl, by decide, by decide, by decide, fun i p hi => ?_⟩
  match i, hi with
  | 0, hi =>
    obtain rfl : ((threeW, 5) : TreeP × Int) = p := by simpa [oneW] using hi
    exact ⟨_, _, _, rfl, r.lt, (r.cell _).trans rfl, (r.cell _).trans rfl, (r.cell _).trans rfl, by unfold Ok64; omega, hn⟩
  | i + 1, hi => simp [oneW] at hi

set_option maxRecDepth 100000 in
set_option maxHeartbeats 8000000 in
theorem lives23_any (w : World) : Calls Try.prog 31 #[] w fun e w' => e = .returned (.bool true) ∧ Below w.heap.size w w' := by
  have HPT := Lib.hid (fun W nv (hn : NodesR W nv threeW.nodes) => show Calls Try.prog 32 #[.slice none 0 0, .agg #[.int .i64 1, nv]] W fun e w' => ∃ v', e = .returned v' ∧ OwnB w' W.heap.size v' [1, 0, 2, 6, 2, 1] ∧ Below W.heap.size W w' from by
    have := putTree_any (.slice none 0 0) [] (.agg #[.int .i64 1, nv]) threeW W (ints_nil _ _ _ _ (by omega)) (by simp) ⟨_, rfl, hn⟩
    rw [threeW_b] at this
    exact this)
  have HPF := Lib.hid (fun W va vf (ha : Ints .u8 W va [1, 0, 2, 6, 2, 1]) (hf : GrownsR W vf oneW) => show Calls Try.prog 42 #[va, vf] W fun e w' => ∃ v', e = .returned v' ∧ OwnB w' W.heap.size v' bytesW ∧ Below W.heap.size W w' from by
    have := putForest_any va _ vf oneW W ha (by simp) hf
    rw [oneW_b] at this
    exact this)
  have HT1 := Lib.hid (fun W R v (hW : Rd W R v bytesW 0 0) => show Calls Try.prog 37 #[.pointer (some ⟨R, 0, none⟩)] W fun e' w' => ∃ na nc, e' = .returned (.agg #[.int .i64 1, .slice na 3 nc]) ∧ RdTo W R v bytesW w' 6 0 ∧ NodesF W.heap.size w' (.slice na 3 nc) threeW.nodes from by
    have := getTree_any hW bytesW_all (by decide) (by decide)
    rw [bytesW_1] at this
    refine this.mono ?_
    rintro e w' ⟨d, nv, rfl, h1, rfl, h2⟩
    obtain ⟨na, nc, rfl, -⟩ := h2.now
    exact ⟨na, nc, rfl, h1, h2⟩)
  have HT2 := Lib.hid (fun W R v (hW : Rd W R v bytesW 6 0) => show Calls Try.prog 44 #[.pointer (some ⟨R, 0, none⟩)] W fun e' w' => ∃ fv, e' = .returned fv ∧ RdTo W R v bytesW w' 14 0 ∧ GrownsF W.heap.size w' fv oneW from by
    have := getForest_any hW bytesW_all (by decide) (by decide)
    rw [bytesW_2] at this
    exact this)
  have HT3 := Lib.hid (fun W R v (hW : Rd W R v bytesW 14 0) => show Calls Try.prog 37 #[.pointer (some ⟨R, 0, none⟩)] W fun e' w' => ∃ na nc, e' = .returned (.agg #[.int .i64 0, .slice na 0 nc]) ∧ RdTo W R v bytesW w' 14 210 from by
    have := getTree_any hW bytesW_all (by decide) (by decide)
    rw [bytesW_3] at this
    refine this.mono ?_
    rintro e w' ⟨d, nv, rfl, h1, rfl, h2⟩
    obtain ⟨na, nc, rfl, -⟩ := h2.now
    exact ⟨na, nc, rfl, h1⟩)
  have HSM := Lib.hid (fun W va vb (ha : Ints .u8 W va [1, 0, 2, 6, 2, 1]) (hb : Ints .u8 W vb [1, 0, 2, 6, 2, 1]) => same21_eq va vb _ W ha hb)
  have HST := Lib.hid (fun W na nb (ha : NodesR W na threeW.nodes) (hb : NodesR W nb threeW.nodes) => show Calls Try.prog 22 #[.agg #[.int .i64 1, na], .agg #[.int .i64 1, nb]] W fun e w' => e = .returned (.bool true) ∧ Below W.heap.size W w' from by
    have := r10same_any _ _ threeW threeW W ⟨_, rfl, ha⟩ ⟨_, rfl, hb⟩
    rw [sameT_eq.2 rfl] at this
    exact this)
  go_enter Try.func31, Try.ntmps31
  go_wp2_with fail
  have hnt : NodesR (((w.alloc (.cells #[.int .i64 1] 3)).alloc (.cells #[.slice (some ⟨w.heap.size, 0, none⟩) 1 1, .int .i64 3, .int .i64 1, .int .i64 2, .int .i64 3, .slice none 0 0, .int .i64 0, .int .i64 0, .int .i64 0, .int .i64 2, .slice none 0 0, .int .i64 0, .int .i64 0, .int .i64 0, .int .i64 1] 85)).alloc (.cells #[.int .i64 1, .slice (some ⟨w.heap.size + 1, 0, none⟩) 3 3] 38)) (.slice (some ⟨w.heap.size + 1, 0, none⟩) 3 3) threeW.nodes := by
    refine threeW_at (H := w.heap.size) ((ints1 1 w 3 w.heap.size rfl).below (by (repeat (first | with_reducible exact Below.refl _ _ | with_reducible refine Bs ?_ | with_reducible refine Ba ?_ | with_reducible refine Bd ?_ | with_reducible refine Bn ?_)))) ?_
    exact (Below.heap_alloc _ _ _ (by simp)).trans (row_new (by simp))
  (with_reducible refine (HPT.out _ _ hnt).mono ?_)
  rintro e w1 ⟨v1, rfl, o1, b1⟩
  have y1 := b1.size
  simp only [World.size_alloc] at y1
  have NT := Lib.hid (hnt.below b1)
  obtain ⟨c0, c1⟩ := k2 (w.heap.size + 1 + 1) (.int .i64 1) (.slice (some ⟨w.heap.size + 1, 0, none⟩) 3 3) b1 (by and_intros <;> go_simp)
  obtain ⟨lq1, lr1, ls1⟩ := lnm (show w.heap.size + 1 < w1.heap.size by first | omega | (simp at *; omega))
  obtain ⟨lq2, lr2, ls2⟩ := lnm (show w.heap.size + 1 + 1 < w1.heap.size by first | omega | (simp at *; omega))
  have B1 := Lib.hid (Bc (B := w.heap.size) (a := w) (by (repeat (first | with_reducible exact Below.refl _ _ | with_reducible refine Bs ?_ | with_reducible refine Ba ?_ | with_reducible refine Bd ?_ | with_reducible refine Bn ?_))) b1)
  obtain ⟨ba, bc, rfl⟩ := own_shapeN o1
  have O1 := Lib.hid (show Ints .u8 w1 (.slice ba 6 bc) [1, 0, 2, 6, 2, 1] from OwnB.ints o1 (by simp))
  clear hnt b1 o1
  go_wp2_with fail
  (with_reducible refine (HPF.out _ _ _ ((new86 w1 _ _ rfl).alloc _) (oneW_at (g := w1.heap.size + 1) (NT.out.below (by (repeat (first | with_reducible exact Below.refl _ _ | with_reducible refine Bs ?_ | with_reducible refine Ba ?_ | with_reducible refine Bd ?_ | with_reducible refine Bn ?_)))) (row_new (by simp)))).mono ?_)
  rintro e w2 ⟨v2, rfl, o2, b2⟩
  have y2 := b2.size
  simp only [World.size_alloc] at y2
  obtain ⟨d0, d1⟩ := k2 (w.heap.size + 1 + 1) (.int .i64 1) (.slice (some ⟨w.heap.size + 1, 0, none⟩) 3 3) b2 (by and_intros <;> go_simp)
  obtain ⟨lq3, lr3, ls3⟩ := lnm (show w.heap.size + 1 + 1 < w2.heap.size by first | omega | (simp at *; omega))
  have B2 := Lib.hid (Bc (B := w1.heap.size) (a := w1) (by (repeat (first | with_reducible exact Below.refl _ _ | with_reducible refine Bs ?_ | with_reducible refine Ba ?_ | with_reducible refine Bd ?_ | with_reducible refine Bn ?_))) b2)
  obtain ⟨da, dc, rfl⟩ := own_shapeN o2
  have O2 := Lib.hid (OwnB.ints o2 (by decide))
  clear b2 o2
  go_wp2_with fail
  (with_reducible refine (from_any _ bytesW _ O2.out (by decide)).mono ?_)
  rintro e w3 ⟨R, rv, rfl, hR, r3, b3⟩
  have y3 := b3.size
  have hR1 := r3.lt
  obtain ⟨e0, e1⟩ := k2 (w.heap.size + 1 + 1) (.int .i64 1) (.slice (some ⟨w.heap.size + 1, 0, none⟩) 3 3) b3 (by and_intros <;> go_simp)
  obtain ⟨lq4, lr4, ls4⟩ := lnm (show w.heap.size + 1 + 1 < w3.heap.size by first | omega | (simp at *; omega))
  have B3 := Lib.hid (Bc (B := w1.heap.size) (a := w1) (by (repeat (first | with_reducible exact Below.refl _ _ | with_reducible refine Bs ?_ | with_reducible refine Ba ?_ | with_reducible refine Bd ?_ | with_reducible refine Bn ?_ | with_reducible refine Bt B2.out ?_))) b3)
  have R3 := Lib.hid r3
  clear b3 r3
  go_wp2_with fail
  (with_reducible refine (HT1.out _ R rv R3.out).mono ?_)
  rintro e w4 ⟨na, nc, rfl, r4, hf4⟩
  have gg4 := r4.2
  have y4 := gg4.size
  obtain ⟨f0, f1⟩ := g2 (w.heap.size + 1 + 1) (.int .i64 1) (.slice (some ⟨w.heap.size + 1, 0, none⟩) 3 3) gg4 (by and_intros <;> go_simp)
  obtain ⟨lq5, lr5, ls5⟩ := lnm (show w.heap.size + 1 + 1 < w4.heap.size by first | omega | (simp at *; omega))
  have B4 := Lib.hid (below_only (w0 := w1) (show Below w1.heap.size w1 _ from by (repeat (first | with_reducible exact Below.refl _ _ | with_reducible refine Bs ?_ | with_reducible refine Ba ?_ | with_reducible refine Bd ?_ | with_reducible refine Bn ?_ | with_reducible refine Bt B3.out ?_))) gg4 (Nat.le_refl _) (by omega))
  have R4 := Lib.hid r4.1
  have F4 := Lib.hid hf4
  clear r4 hf4 gg4
  go_wp2_with fail
  (with_reducible refine (HT2.out _ R rv (R4.out.below (by (repeat (first | with_reducible exact Below.refl _ _ | with_reducible refine Bs ?_ | with_reducible refine Ba ?_ | with_reducible refine Bd ?_ | with_reducible refine Bn ?_))))).mono ?_)
  rintro e w5 ⟨fv, rfl, r5, hg5⟩
  obtain ⟨fa, fc, rfl⟩ := hg5.now.shape
  rw [show oneW.length = 1 from rfl] at hg5 ⊢
  have gg5 := r5.2
  have y5 := gg5.size
  simp only [World.size_alloc] at y5
  obtain ⟨g0, g1⟩ := g2 (w.heap.size + 1 + 1) (.int .i64 1) (.slice (some ⟨w.heap.size + 1, 0, none⟩) 3 3) gg5 (by and_intros <;> go_simp)
  obtain ⟨h0, h1⟩ := g2 (w4.heap.size) (.int .i64 1) (.slice na 3 nc) gg5 (by and_intros <;> go_simp)
  obtain ⟨lq6, lr6, ls6⟩ := lnm (show w.heap.size + 1 + 1 < w5.heap.size by first | omega | (simp at *; omega))
  obtain ⟨lq7, lr7, ls7⟩ := lnm (show w4.heap.size < w5.heap.size by first | omega | (simp at *; omega))
  have B5 := Lib.hid (below_only (w0 := w1) (show Below w1.heap.size w1 _ from by (repeat (first | with_reducible exact Below.refl _ _ | with_reducible refine Bs ?_ | with_reducible refine Ba ?_ | with_reducible refine Bd ?_ | with_reducible refine Bn ?_ | with_reducible refine Bt B4.out ?_))) gg5 (Nat.le_refl _) (by omega))
  have R5 := Lib.hid r5.1
  have F5 := Lib.hid (NodesF.only (F4.out.below (by (repeat (first | with_reducible exact Below.refl _ _ | with_reducible refine Bs ?_ | with_reducible refine Ba ?_ | with_reducible refine Bd ?_ | with_reducible refine Bn ?_)))) hR1 gg5)
  have G5 := Lib.hid hg5
  clear r5 hg5 gg5
  go_wp2_with fail
  (with_reducible refine (HT3.out _ R rv R5.out).mono ?_)
  rintro e w6 ⟨ma, mc, rfl, r6⟩
  have gg6 := r6.2
  have y6 := gg6.size
  obtain ⟨i0, i1⟩ := g2 (w.heap.size + 1 + 1) (.int .i64 1) (.slice (some ⟨w.heap.size + 1, 0, none⟩) 3 3) gg6 (by and_intros <;> go_simp)
  obtain ⟨j0, j1⟩ := g2 (w4.heap.size) (.int .i64 1) (.slice na 3 nc) gg6 (by and_intros <;> go_simp)
  obtain ⟨lq8, lr8, ls8⟩ := lnm (show w.heap.size + 1 + 1 < w6.heap.size by first | omega | (simp at *; omega))
  obtain ⟨lq9, lr9, ls9⟩ := lnm (show w4.heap.size < w6.heap.size by first | omega | (simp at *; omega))
  have B6 := Lib.hid (below_only (w0 := w1) (show Below w1.heap.size w1 _ from by (repeat (first | with_reducible exact Below.refl _ _ | with_reducible refine Bs ?_ | with_reducible refine Ba ?_ | with_reducible refine Bd ?_ | with_reducible refine Bn ?_ | with_reducible refine Bt B5.out ?_))) gg6 (Nat.le_refl _) (by omega))
  have R6 := Lib.hid r6.1
  have F6 := Lib.hid (F5.out.only hR1 gg6)
  have hg6 := G5.out.only (by simp; omega) gg6
  obtain ⟨b, o, nb, mb, hba, hb, c0, c1, c2, _, hn⟩ := growns_at (i := 0) (p := (threeW, 5)) hg6.now rfl
  subst hba
  rw [Nat.zero_mul, Nat.add_zero] at c0 c1 c2
  change w6.cell? ⟨b, o, none⟩ = some (.int .i64 1) at c0
  change w6.cell? ⟨b, o + 1, none⟩ = some (.slice nb 3 mb) at c1
  change w6.cell? ⟨b, o + 2, none⟩ = some (.int .i64 5) at c2
  have HN6 := Lib.hid (show NodesR w6 (.slice nb 3 mb) threeW.nodes from hn)
  clear r6 gg6 hg6 hn
  go_upto_region 9 with fail
  refine wp_region_held_drew (S := fun w' => w'.cell? ⟨w4.heap.size, 0, none⟩ = some (.int .i64 1) ∧ w'.cell? ⟨w4.heap.size, 1, none⟩ = some (.slice na 3 nc) ∧ w'.cell? ⟨w.heap.size + 1 + 1, 0, none⟩ = some (.int .i64 1) ∧ w'.cell? ⟨w.heap.size + 1 + 1, 1, none⟩ = some (.slice (some ⟨w.heap.size + 1, 0, none⟩) 3 3) ∧ w'.cell? ⟨b, o, none⟩ = some (.int .i64 1) ∧ w'.cell? ⟨b, o + 1, none⟩ = some (.slice nb 3 mb) ∧ w'.cell? ⟨b, o + 2, none⟩ = some (.int .i64 5) ∧ w'.cell? ⟨w6.heap.size, 1, none⟩ = some (.slice ma 0 mc)) (by kernel_rfl) ?_ (fun hHeld => ?_); (focus (first | with_reducible exact True.intro | ((try dsimp only); and_intros <;> first | (go_simp; done) | (go_keep; done)))); (refine lexTk 0 (v := ?_) rfl hHeld ?_ (by kernel_rfl) (fun _ _ _ h => h) ?_ ?_; rotate_left 2; (focus rfl); (focus (intro w hSw; (try dsimp only at hSw); first | (go_simp; done) | (go_simp; with_reducible rfl)))); (try simp only [Act.put, List.setIfInBounds_toArray, List.set_cons_zero, List.set_cons_succ]); refine lexHv 1 rfl ?_ (by kernel_rfl); (intro K hK); (go_simp); refine hK.out _ _ ?_ ?_; (focus (first | with_reducible exact True.intro | ((try dsimp only); and_intros <;> first | (go_simp; done) | (go_keep; done)))); (clear hHeld hK K); (intro hHeld); (try simp only [Act.put, List.setIfInBounds_toArray, List.set_cons_zero, List.set_cons_succ]); refine lexHv 2 rfl ?_ (by kernel_rfl); (intro K hK); (go_simp; (go_at_call 33); (have I7 := new86d (w6.alloc (.cells #[.int .i64 0, .slice ma 0 mc] 38)) 5 (w6.heap.size + 1) (by simp)); (with_reducible refine (HSM.out _ _ _ (O1.out.below (show Below w1.heap.size w1 ((w6.alloc (.cells #[.int .i64 0, .slice ma 0 mc] 38)).alloc (.cells #[.int .u8 1, .int .u8 0, .int .u8 2, .int .u8 6, .int .u8 2, .int .u8 1] 5)).drew from by (repeat (first | with_reducible exact Below.refl _ _ | with_reducible refine Bs ?_ | with_reducible refine Ba ?_ | with_reducible refine Bd ?_ | with_reducible refine Bn ?_ | with_reducible refine Bt B6.out ?_)))) I7).mono ?_); (clear I7); (rintro e w7 ⟨rfl, rfl⟩); (try go_wp2_with fail)); refine hK.out _ _ ?_ ?_; (focus (first | with_reducible exact True.intro | ((try dsimp only); and_intros <;> first | (go_simp; done) | (go_keep; done)))); (clear hHeld hK K); (intro hHeld); (try simp only [Act.put, List.setIfInBounds_toArray, List.set_cons_zero, List.set_cons_succ]); (refine lexTk 3 (v := ?_) rfl hHeld ?_ (by kernel_rfl) (fun _ _ _ h => h) ?_ ?_; rotate_left 2; (focus rfl); (focus (intro w hSw; (try dsimp only at hSw); first | (go_simp; done) | (go_simp; with_reducible rfl)))); (try simp only [Act.put, List.setIfInBounds_toArray, List.set_cons_zero, List.set_cons_succ]); (first | (refine lexTk 4 (v := ?_) rfl hHeld ?_ (by kernel_rfl) (fun _ _ _ h => h) ?_ ?_; rotate_left 2; (focus rfl); (focus (intro w hSw; (try dsimp only at hSw); first | (go_simp; done) | (go_simp; with_reducible rfl)))) | refine lexSk 4 rfl hHeld ?_ (by kernel_rfl) (fun _ _ _ h => h) (by rfl)); (try simp only [Act.put, List.setIfInBounds_toArray, List.set_cons_zero, List.set_cons_succ]); (first | (refine lexTk 5 (v := ?_) rfl hHeld ?_ (by kernel_rfl) (fun _ _ _ h => h) ?_ ?_; rotate_left 2; (focus rfl); (focus (intro w hSw; (try dsimp only at hSw); first | (go_simp; done) | (go_simp; with_reducible rfl)))) | refine lexSk 5 rfl hHeld ?_ (by kernel_rfl) (fun _ _ _ h => h) (by rfl)); (try simp only [Act.put, List.setIfInBounds_toArray, List.set_cons_zero, List.set_cons_succ]); refine lexHv 6 rfl ?_ (by kernel_rfl); (intro K hK); (go_simp; (go_at_call 22); (with_reducible refine (HST.out _ _ _ (F6.out.now.below (by (repeat (first | with_reducible exact Below.refl _ _ | with_reducible refine Bs ?_ | with_reducible refine Ba ?_ | with_reducible refine Bd ?_ | with_reducible refine Bn ?_)))) (NT.out.below (by (repeat (first | with_reducible exact Below.refl _ _ | with_reducible refine Bs ?_ | with_reducible refine Ba ?_ | with_reducible refine Bd ?_ | with_reducible refine Bn ?_ | with_reducible refine Bt B6.out ?_))))).mono ?_); (rintro e w8 ⟨rfl, b8⟩); (have y8 := b8.size); (try simp only [World.size_alloc, World.size_drew] at y8); (obtain ⟨a80, a81⟩ := k2 (w4.heap.size) (.int .i64 1) (.slice na 3 nc) b8 (by and_intros <;> go_simp)); (obtain ⟨d80, d81⟩ := k2 (w.heap.size + 1 + 1) (.int .i64 1) (.slice (some ⟨w.heap.size + 1, 0, none⟩) 3 3) b8 (by and_intros <;> go_simp)); (have e80 : w8.cell? ⟨b, o, none⟩ = some (.int .i64 1) := kc b8 (by go_simp) (by first | omega | (simp; done) | (simp; omega))); (have e81 : w8.cell? ⟨b, o + 1, none⟩ = some (.slice nb 3 mb) := kc b8 (by go_simp) (by first | omega | (simp; done) | (simp; omega))); (have e82 : w8.cell? ⟨b, o + 2, none⟩ = some (.int .i64 5) := kc b8 (by go_simp) (by first | omega | (simp; done) | (simp; omega))); (have f8 : w8.cell? ⟨w6.heap.size, 1, none⟩ = some (.slice ma 0 mc) := kc b8 (by go_simp) (by first | omega | (simp; done) | (simp; omega))); (obtain ⟨lq10, lr10, ls10⟩ := lnm (show w4.heap.size < w8.heap.size by first | omega | (simp at *; omega))); (obtain ⟨lq11, lr11, ls11⟩ := lnm (show w.heap.size + 1 + 1 < w8.heap.size by first | omega | (simp at *; omega))); (obtain ⟨lq12, lr12, ls12⟩ := lnm (show b < w8.heap.size by first | omega | (simp at *; omega))); (obtain ⟨lq13, lr13, ls13⟩ := lnm (show w6.heap.size < w8.heap.size by first | omega | (simp at *; omega))); (have B8 := Lib.hid (Bc (B := w1.heap.size) (a := w1) (by (repeat (first | with_reducible exact Below.refl _ _ | with_reducible refine Bs ?_ | with_reducible refine Ba ?_ | with_reducible refine Bd ?_ | with_reducible refine Bn ?_ | with_reducible refine Bt B6.out ?_))) b8)); (have HN8 := Lib.hid ((HN6.out.below (by (repeat (first | with_reducible exact Below.refl _ _ | with_reducible refine Bs ?_ | with_reducible refine Ba ?_ | with_reducible refine Bd ?_ | with_reducible refine Bn ?_)))).below b8)); (have R8 := Lib.hid ((R6.out.below (by (repeat (first | with_reducible exact Below.refl _ _ | with_reducible refine Bs ?_ | with_reducible refine Ba ?_ | with_reducible refine Bd ?_ | with_reducible refine Bn ?_)))).below b8)); (clear b8); (try go_wp2_with fail)); refine hK.out _ _ ?_ ?_; (focus (first | with_reducible exact True.intro | ((try dsimp only); and_intros <;> first | (go_simp; done) | (go_keep; done)))); (clear hHeld hK K); (intro hHeld); (try simp only [Act.put, List.setIfInBounds_toArray, List.set_cons_zero, List.set_cons_succ]); (refine lexTk 7 (v := ?_) rfl hHeld ?_ (by kernel_rfl) (fun _ _ _ h => h) ?_ ?_; rotate_left 2; (focus rfl); (focus (intro w hSw; (try dsimp only at hSw); first | (go_simp; done) | (go_simp; with_reducible rfl)))); (try simp only [Act.put, List.setIfInBounds_toArray, List.set_cons_zero, List.set_cons_succ]); (refine lexTk 8 (v := ?_) rfl hHeld ?_ (by kernel_rfl) (fun _ _ _ h => h) ?_ ?_; rotate_left 2; (focus rfl); (focus (intro w hSw; (try dsimp only at hSw); first | (go_simp; done) | (go_simp; with_reducible rfl)))); (try simp only [Act.put, List.setIfInBounds_toArray, List.set_cons_zero, List.set_cons_succ]); (first | (refine lexTk 9 (v := ?_) rfl hHeld ?_ (by kernel_rfl) (fun _ _ _ h => h) ?_ ?_; rotate_left 2; (focus rfl); (focus (intro w hSw; (try dsimp only at hSw); first | (go_simp; done) | (go_simp; with_reducible rfl)))) | refine lexSk 9 rfl hHeld ?_ (by kernel_rfl) (fun _ _ _ h => h) (by rfl)); (try simp only [Act.put, List.setIfInBounds_toArray, List.set_cons_zero, List.set_cons_succ]); (first | (refine lexTk 10 (v := ?_) rfl hHeld ?_ (by kernel_rfl) (fun _ _ _ h => h) ?_ ?_; rotate_left 2; (focus rfl); (focus (intro w hSw; (try dsimp only at hSw); first | (go_simp; done) | (go_simp; with_reducible rfl)))) | refine lexSk 10 rfl hHeld ?_ (by kernel_rfl) (fun _ _ _ h => h) (by rfl)); (try simp only [Act.put, List.setIfInBounds_toArray, List.set_cons_zero, List.set_cons_succ]); (first | (refine lexTk 11 (v := ?_) rfl hHeld ?_ (by kernel_rfl) (fun _ _ _ h => h) ?_ ?_; rotate_left 2; (focus rfl); (focus (intro w hSw; (try dsimp only at hSw); first | (go_simp; done) | (go_simp; with_reducible rfl)))) | refine lexSk 11 rfl hHeld ?_ (by kernel_rfl) (fun _ _ _ h => h) (by rfl)); (try simp only [Act.put, List.setIfInBounds_toArray, List.set_cons_zero, List.set_cons_succ]); (refine lexTk 12 (v := ?_) rfl hHeld ?_ (by kernel_rfl) (fun _ _ _ h => h) ?_ ?_; rotate_left 2; (focus rfl); (focus (intro w hSw; (try dsimp only at hSw); first | (go_simp; done) | (go_simp; with_reducible rfl)))); (try simp only [Act.put, List.setIfInBounds_toArray, List.set_cons_zero, List.set_cons_succ]); (refine lexTk 13 (v := ?_) rfl hHeld ?_ (by kernel_rfl) (fun _ _ _ h => h) ?_ ?_; rotate_left 2; (focus rfl); (focus (intro w hSw; (try dsimp only at hSw); first | (go_simp; done) | (go_simp; with_reducible rfl)))); (try simp only [Act.put, List.setIfInBounds_toArray, List.set_cons_zero, List.set_cons_succ]); (first | (refine lexTk 14 (v := ?_) rfl hHeld ?_ (by kernel_rfl) (fun _ _ _ h => h) ?_ ?_; rotate_left 2; (focus rfl); (focus (intro w hSw; (try dsimp only at hSw); first | (go_simp; done) | (go_simp; with_reducible rfl)))) | refine lexSk 14 rfl hHeld ?_ (by kernel_rfl) (fun _ _ _ h => h) (by rfl)); (try simp only [Act.put, List.setIfInBounds_toArray, List.set_cons_zero, List.set_cons_succ]); (first | (refine lexTk 15 (v := ?_) rfl hHeld ?_ (by kernel_rfl) (fun _ _ _ h => h) ?_ ?_; rotate_left 2; (focus rfl); (focus (intro w hSw; (try dsimp only at hSw); first | (go_simp; done) | (go_simp; with_reducible rfl)))) | refine lexSk 15 rfl hHeld ?_ (by kernel_rfl) (fun _ _ _ h => h) (by rfl)); (try simp only [Act.put, List.setIfInBounds_toArray, List.set_cons_zero, List.set_cons_succ]); (first | (refine lexTk 16 (v := ?_) rfl hHeld ?_ (by kernel_rfl) (fun _ _ _ h => h) ?_ ?_; rotate_left 2; (focus rfl); (focus (intro w hSw; (try dsimp only at hSw); first | (go_simp; done) | (go_simp; with_reducible rfl)))) | refine lexSk 16 rfl hHeld ?_ (by kernel_rfl) (fun _ _ _ h => h) (by rfl)); (try simp only [Act.put, List.setIfInBounds_toArray, List.set_cons_zero, List.set_cons_succ]); (first | (refine lexTk 17 (v := ?_) rfl hHeld ?_ (by kernel_rfl) (fun _ _ _ h => h) ?_ ?_; rotate_left 2; (focus rfl); (focus (intro w hSw; (try dsimp only at hSw); first | (go_simp; done) | (go_simp; with_reducible rfl)))) | refine lexSk 17 rfl hHeld ?_ (by kernel_rfl) (fun _ _ _ h => h) (by rfl)); (try simp only [Act.put, List.setIfInBounds_toArray, List.set_cons_zero, List.set_cons_succ]); (first | (refine lexTk 18 (v := ?_) rfl hHeld ?_ (by kernel_rfl) (fun _ _ _ h => h) ?_ ?_; rotate_left 2; (focus rfl); (focus (intro w hSw; (try dsimp only at hSw); first | (go_simp; done) | (go_simp; with_reducible rfl)))) | refine lexSk 18 rfl hHeld ?_ (by kernel_rfl) (fun _ _ _ h => h) (by rfl)); (try simp only [Act.put, List.setIfInBounds_toArray, List.set_cons_zero, List.set_cons_succ]); (refine lexTk 19 (v := ?_) rfl hHeld ?_ (by kernel_rfl) (fun _ _ _ h => h) ?_ ?_; rotate_left 2; (focus rfl); (focus (intro w hSw; (try dsimp only at hSw); first | (go_simp; done) | (go_simp; with_reducible rfl)))); (try simp only [Act.put, List.setIfInBounds_toArray, List.set_cons_zero, List.set_cons_succ]); (refine lexTk 20 (v := ?_) rfl hHeld ?_ (by kernel_rfl) (fun _ _ _ h => h) ?_ ?_; rotate_left 2; (focus rfl); (focus (intro w hSw; (try dsimp only at hSw); first | (go_simp; done) | (go_simp; with_reducible rfl)))); (try simp only [Act.put, List.setIfInBounds_toArray, List.set_cons_zero, List.set_cons_succ]); (first | (refine lexTk 21 (v := ?_) rfl hHeld ?_ (by kernel_rfl) (fun _ _ _ h => h) ?_ ?_; rotate_left 2; (focus rfl); (focus (intro w hSw; (try dsimp only at hSw); first | (go_simp; done) | (go_simp; with_reducible rfl)))) | refine lexSk 21 rfl hHeld ?_ (by kernel_rfl) (fun _ _ _ h => h) (by rfl)); (try simp only [Act.put, List.setIfInBounds_toArray, List.set_cons_zero, List.set_cons_succ]); (first | (refine lexTk 22 (v := ?_) rfl hHeld ?_ (by kernel_rfl) (fun _ _ _ h => h) ?_ ?_; rotate_left 2; (focus rfl); (focus (intro w hSw; (try dsimp only at hSw); first | (go_simp; done) | (go_simp; with_reducible rfl)))) | refine lexSk 22 rfl hHeld ?_ (by kernel_rfl) (fun _ _ _ h => h) (by rfl)); (try simp only [Act.put, List.setIfInBounds_toArray, List.set_cons_zero, List.set_cons_succ]); (first | (refine lexTk 23 (v := ?_) rfl hHeld ?_ (by kernel_rfl) (fun _ _ _ h => h) ?_ ?_; rotate_left 2; (focus rfl); (focus (intro w hSw; (try dsimp only at hSw); first | (go_simp; done) | (go_simp; with_reducible rfl)))) | refine lexSk 23 rfl hHeld ?_ (by kernel_rfl) (fun _ _ _ h => h) (by rfl)); (try simp only [Act.put, List.setIfInBounds_toArray, List.set_cons_zero, List.set_cons_succ]); (first | (refine lexTk 24 (v := ?_) rfl hHeld ?_ (by kernel_rfl) (fun _ _ _ h => h) ?_ ?_; rotate_left 2; (focus rfl); (focus (intro w hSw; (try dsimp only at hSw); first | (go_simp; done) | (go_simp; with_reducible rfl)))) | refine lexSk 24 rfl hHeld ?_ (by kernel_rfl) (fun _ _ _ h => h) (by rfl)); (try simp only [Act.put, List.setIfInBounds_toArray, List.set_cons_zero, List.set_cons_succ]); (first | (refine lexTk 25 (v := ?_) rfl hHeld ?_ (by kernel_rfl) (fun _ _ _ h => h) ?_ ?_; rotate_left 2; (focus rfl); (focus (intro w hSw; (try dsimp only at hSw); first | (go_simp; done) | (go_simp; with_reducible rfl)))) | refine lexSk 25 rfl hHeld ?_ (by kernel_rfl) (fun _ _ _ h => h) (by rfl)); (try simp only [Act.put, List.setIfInBounds_toArray, List.set_cons_zero, List.set_cons_succ]); refine lexHv 26 rfl ?_ (by kernel_rfl); (intro K hK); (go_simp; (go_at_call 22); (with_reducible refine (HST.out _ _ _ (HN8.out.below (by (repeat (first | with_reducible exact Below.refl _ _ | with_reducible refine Bs ?_ | with_reducible refine Ba ?_ | with_reducible refine Bd ?_ | with_reducible refine Bn ?_)))) (NT.out.below (by (repeat (first | with_reducible exact Below.refl _ _ | with_reducible refine Bs ?_ | with_reducible refine Ba ?_ | with_reducible refine Bd ?_ | with_reducible refine Bn ?_ | with_reducible refine Bt B8.out ?_))))).mono ?_); (rintro e w9 ⟨rfl, b9⟩); (have y9 := b9.size); (try simp only [World.size_alloc, World.size_drew] at y9); (obtain ⟨a90, a91⟩ := k2 (w4.heap.size) (.int .i64 1) (.slice na 3 nc) b9 (by and_intros <;> go_simp)); (obtain ⟨d90, d91⟩ := k2 (w.heap.size + 1 + 1) (.int .i64 1) (.slice (some ⟨w.heap.size + 1, 0, none⟩) 3 3) b9 (by and_intros <;> go_simp)); (have e90 : w9.cell? ⟨b, o, none⟩ = some (.int .i64 1) := kc b9 (by go_simp) (by first | omega | (simp; done) | (simp; omega))); (have e91 : w9.cell? ⟨b, o + 1, none⟩ = some (.slice nb 3 mb) := kc b9 (by go_simp) (by first | omega | (simp; done) | (simp; omega))); (have e92 : w9.cell? ⟨b, o + 2, none⟩ = some (.int .i64 5) := kc b9 (by go_simp) (by first | omega | (simp; done) | (simp; omega))); (have f9 : w9.cell? ⟨w6.heap.size, 1, none⟩ = some (.slice ma 0 mc) := kc b9 (by go_simp) (by first | omega | (simp; done) | (simp; omega))); (obtain ⟨lq14, lr14, ls14⟩ := lnm (show w4.heap.size < w9.heap.size by first | omega | (simp at *; omega))); (obtain ⟨lq15, lr15, ls15⟩ := lnm (show w.heap.size + 1 + 1 < w9.heap.size by first | omega | (simp at *; omega))); (obtain ⟨lq16, lr16, ls16⟩ := lnm (show b < w9.heap.size by first | omega | (simp at *; omega))); (obtain ⟨lq17, lr17, ls17⟩ := lnm (show w6.heap.size < w9.heap.size by first | omega | (simp at *; omega))); (have B9 := Lib.hid (Bc (B := w1.heap.size) (a := w1) (by (repeat (first | with_reducible exact Below.refl _ _ | with_reducible refine Bs ?_ | with_reducible refine Ba ?_ | with_reducible refine Bd ?_ | with_reducible refine Bn ?_ | with_reducible refine Bt B8.out ?_))) b9)); (have R9 := Lib.hid ((R8.out.below (by (repeat (first | with_reducible exact Below.refl _ _ | with_reducible refine Bs ?_ | with_reducible refine Ba ?_ | with_reducible refine Bd ?_ | with_reducible refine Bn ?_)))).below b9)); (clear b9); (try go_wp2_with fail)); refine hK.out _ _ ?_ ?_; (focus (first | with_reducible exact True.intro | ((try dsimp only); and_intros <;> first | (go_simp; done) | (go_keep; done)))); (clear hHeld hK K); (intro hHeld); (try simp only [Act.put, List.setIfInBounds_toArray, List.set_cons_zero, List.set_cons_succ]); (refine lexTk 27 (v := ?_) rfl hHeld ?_ (by kernel_rfl) (fun _ _ _ h => h) ?_ ?_; rotate_left 2; (focus rfl); (focus (intro w hSw; (try dsimp only at hSw); first | (go_simp; done) | (go_simp; with_reducible rfl)))); (try simp only [Act.put, List.setIfInBounds_toArray, List.set_cons_zero, List.set_cons_succ]); (refine lexTk 28 (v := ?_) rfl hHeld ?_ (by kernel_rfl) (fun _ _ _ h => h) ?_ ?_; rotate_left 2; (focus rfl); (focus (intro w hSw; (try dsimp only at hSw); first | (go_simp; done) | (go_simp; with_reducible rfl)))); (try simp only [Act.put, List.setIfInBounds_toArray, List.set_cons_zero, List.set_cons_succ]); (first | (refine lexTk 29 (v := ?_) rfl hHeld ?_ (by kernel_rfl) (fun _ _ _ h => h) ?_ ?_; rotate_left 2; (focus rfl); (focus (intro w hSw; (try dsimp only at hSw); first | (go_simp; done) | (go_simp; with_reducible rfl)))) | refine lexSk 29 rfl hHeld ?_ (by kernel_rfl) (fun _ _ _ h => h) (by rfl)); (try simp only [Act.put, List.setIfInBounds_toArray, List.set_cons_zero, List.set_cons_succ]); (first | (refine lexTk 30 (v := ?_) rfl hHeld ?_ (by kernel_rfl) (fun _ _ _ h => h) ?_ ?_; rotate_left 2; (focus rfl); (focus (intro w hSw; (try dsimp only at hSw); first | (go_simp; done) | (go_simp; with_reducible rfl)))) | refine lexSk 30 rfl hHeld ?_ (by kernel_rfl) (fun _ _ _ h => h) (by rfl)); (try simp only [Act.put, List.setIfInBounds_toArray, List.set_cons_zero, List.set_cons_succ]); (first | (refine lexTk 31 (v := ?_) rfl hHeld ?_ (by kernel_rfl) (fun _ _ _ h => h) ?_ ?_; rotate_left 2; (focus rfl); (focus (intro w hSw; (try dsimp only at hSw); first | (go_simp; done) | (go_simp; with_reducible rfl)))) | refine lexSk 31 rfl hHeld ?_ (by kernel_rfl) (fun _ _ _ h => h) (by rfl)); (try simp only [Act.put, List.setIfInBounds_toArray, List.set_cons_zero, List.set_cons_succ]); (first | (refine lexTk 32 (v := ?_) rfl hHeld ?_ (by kernel_rfl) (fun _ _ _ h => h) ?_ ?_; rotate_left 2; (focus rfl); (focus (intro w hSw; (try dsimp only at hSw); first | (go_simp; done) | (go_simp; with_reducible rfl)))) | refine lexSk 32 rfl hHeld ?_ (by kernel_rfl) (fun _ _ _ h => h) (by rfl)); (try simp only [Act.put, List.setIfInBounds_toArray, List.set_cons_zero, List.set_cons_succ]); (refine lexTk 33 (v := ?_) rfl hHeld ?_ (by kernel_rfl) (fun _ _ _ h => h) ?_ ?_; rotate_left 2; (focus rfl); (focus (intro w hSw; (try dsimp only at hSw); first | (go_simp; done) | (go_simp; with_reducible rfl)))); (try simp only [Act.put, List.setIfInBounds_toArray, List.set_cons_zero, List.set_cons_succ]); (refine lexTk 34 (v := ?_) rfl hHeld ?_ (by kernel_rfl) (fun _ _ _ h => h) ?_ ?_; rotate_left 2; (focus rfl); (focus (intro w hSw; (try dsimp only at hSw); first | (go_simp; done) | (go_simp; with_reducible rfl)))); (try simp only [Act.put, List.setIfInBounds_toArray, List.set_cons_zero, List.set_cons_succ]); (first | (refine lexTk 35 (v := ?_) rfl hHeld ?_ (by kernel_rfl) (fun _ _ _ h => h) ?_ ?_; rotate_left 2; (focus rfl); (focus (intro w hSw; (try dsimp only at hSw); first | (go_simp; done) | (go_simp; with_reducible rfl)))) | refine lexSk 35 rfl hHeld ?_ (by kernel_rfl) (fun _ _ _ h => h) (by rfl)); (try simp only [Act.put, List.setIfInBounds_toArray, List.set_cons_zero, List.set_cons_succ]); refine lexHv 36 rfl ?_ (by kernel_rfl); (intro K hK); (go_simp; (go_at_call 38); (with_reducible refine (err_any (R9.out.below (by (repeat (first | with_reducible exact Below.refl _ _ | with_reducible refine Bs ?_ | with_reducible refine Ba ?_ | with_reducible refine Bd ?_ | with_reducible refine Bn ?_))))).mono ?_); (rintro e w10 ⟨rfl, rfl⟩); (try go_wp2_with fail)); refine hK.out _ _ ?_ ?_; (focus (first | with_reducible exact True.intro | ((try dsimp only); and_intros <;> first | (go_simp; done) | (go_keep; done)))); (clear hHeld hK K); (intro hHeld); (try simp only [Act.put, List.setIfInBounds_toArray, List.set_cons_zero, List.set_cons_succ]); (first | (refine lexTk 37 (v := ?_) rfl hHeld ?_ (by kernel_rfl) (fun _ _ _ h => h) ?_ ?_; rotate_left 2; (focus rfl); (focus (intro w hSw; (try dsimp only at hSw); first | (go_simp; done) | (go_simp; with_reducible rfl)))) | refine lexSk 37 rfl hHeld ?_ (by kernel_rfl) (fun _ _ _ h => h) (by rfl)); (try simp only [Act.put, List.setIfInBounds_toArray, List.set_cons_zero, List.set_cons_succ]); (refine lexTk 38 (v := ?_) rfl hHeld ?_ (by kernel_rfl) (fun _ _ _ h => h) ?_ ?_; rotate_left 2; (focus rfl); (focus (intro w hSw; (try dsimp only at hSw); first | (go_simp; done) | (go_simp; with_reducible rfl)))); (try simp only [Act.put, List.setIfInBounds_toArray, List.set_cons_zero, List.set_cons_succ]); (refine lexTk 39 (v := ?_) rfl hHeld ?_ (by kernel_rfl) (fun _ _ _ h => h) ?_ ?_; rotate_left 2; (focus rfl); (focus (intro w hSw; (try dsimp only at hSw); first | (go_simp; done) | (go_simp; with_reducible rfl)))); (try simp only [Act.put, List.setIfInBounds_toArray, List.set_cons_zero, List.set_cons_succ]); refine lexHv 40 rfl ?_ (by kernel_rfl); (intro K hK); (go_simp; (go_at_call 44); (with_reducible refine (readW_nil _).mono ?_); (rintro e w11 ⟨rfl, b11⟩); (have y11 := b11.size); (try simp only [World.size_alloc, World.size_drew] at y11); (obtain ⟨a110, a111⟩ := k2 (w4.heap.size) (.int .i64 1) (.slice na 3 nc) b11 (by and_intros <;> go_simp)); (obtain ⟨d110, d111⟩ := k2 (w.heap.size + 1 + 1) (.int .i64 1) (.slice (some ⟨w.heap.size + 1, 0, none⟩) 3 3) b11 (by and_intros <;> go_simp)); (have e110 : w11.cell? ⟨b, o, none⟩ = some (.int .i64 1) := kc b11 (by go_simp) (by first | omega | (simp; done) | (simp; omega))); (have e111 : w11.cell? ⟨b, o + 1, none⟩ = some (.slice nb 3 mb) := kc b11 (by go_simp) (by first | omega | (simp; done) | (simp; omega))); (have e112 : w11.cell? ⟨b, o + 2, none⟩ = some (.int .i64 5) := kc b11 (by go_simp) (by first | omega | (simp; done) | (simp; omega))); (have f11 : w11.cell? ⟨w6.heap.size, 1, none⟩ = some (.slice ma 0 mc) := kc b11 (by go_simp) (by first | omega | (simp; done) | (simp; omega))); (obtain ⟨lq18, lr18, ls18⟩ := lnm (show w4.heap.size < w11.heap.size by first | omega | (simp at *; omega))); (obtain ⟨lq19, lr19, ls19⟩ := lnm (show w.heap.size + 1 + 1 < w11.heap.size by first | omega | (simp at *; omega))); (obtain ⟨lq20, lr20, ls20⟩ := lnm (show b < w11.heap.size by first | omega | (simp at *; omega))); (obtain ⟨lq21, lr21, ls21⟩ := lnm (show w6.heap.size < w11.heap.size by first | omega | (simp at *; omega))); (have B11 := Lib.hid (Bc (B := w1.heap.size) (a := w1) (by (repeat (first | with_reducible exact Below.refl _ _ | with_reducible refine Bs ?_ | with_reducible refine Ba ?_ | with_reducible refine Bd ?_ | with_reducible refine Bn ?_ | with_reducible refine Bt B9.out ?_))) b11)); (clear b11); (try go_wp2_with fail)); refine hK.out _ _ ?_ ?_; (focus (first | with_reducible exact True.intro | ((try dsimp only); and_intros <;> first | (go_simp; done) | (go_keep; done)))); (clear hHeld hK K); (intro hHeld); (try simp only [Act.put, List.setIfInBounds_toArray, List.set_cons_zero, List.set_cons_succ]); (first | (refine lexTk 41 (v := ?_) rfl hHeld ?_ (by kernel_rfl) (fun _ _ _ h => h) ?_ ?_; rotate_left 2; (focus rfl); (focus (intro w hSw; (try dsimp only at hSw); first | (go_simp; done) | (go_simp; with_reducible rfl)))) | refine lexSk 41 rfl hHeld ?_ (by kernel_rfl) (fun _ _ _ h => h) (by rfl)); (try simp only [Act.put, List.setIfInBounds_toArray, List.set_cons_zero, List.set_cons_succ]); (first | (refine lexTk 42 (v := ?_) rfl hHeld ?_ (by kernel_rfl) (fun _ _ _ h => h) ?_ ?_; rotate_left 2; (focus rfl); (focus (intro w hSw; (try dsimp only at hSw); first | (go_simp; done) | (go_simp; with_reducible rfl)))) | refine lexSk 42 rfl hHeld ?_ (by kernel_rfl) (fun _ _ _ h => h) (by rfl)); (try simp only [Act.put, List.setIfInBounds_toArray, List.set_cons_zero, List.set_cons_succ]); (refine lexTk 43 (v := ?_) rfl hHeld ?_ (by kernel_rfl) (fun _ _ _ h => h) ?_ ?_; rotate_left 2; (focus rfl); (focus (intro w hSw; (try dsimp only at hSw); first | (go_simp; done) | (go_simp; with_reducible rfl)))); (try simp only [Act.put, List.setIfInBounds_toArray, List.set_cons_zero, List.set_cons_succ]); (refine lexTk 44 (v := ?_) rfl hHeld ?_ (by kernel_rfl) (fun _ _ _ h => h) ?_ ?_; rotate_left 2; (focus rfl); (focus (intro w hSw; (try dsimp only at hSw); first | (go_simp; done) | (go_simp; with_reducible rfl)))); (try simp only [Act.put, List.setIfInBounds_toArray, List.set_cons_zero]); refine wpAnyH_done (by kernel_rfl) ?_ _
  go_wp2_with fail
  go_ret
  exact ⟨rfl, by (repeat (first | with_reducible exact Below.refl _ _ | with_reducible refine Bs ?_ | with_reducible refine Ba ?_ | with_reducible refine Bd ?_ | with_reducible refine Bn ?_ | with_reducible refine Bt B11.out ?_ | with_reducible refine Bt B1.out ?_))⟩
end Go.Proofs.Ytdbonlpkmncggaa
