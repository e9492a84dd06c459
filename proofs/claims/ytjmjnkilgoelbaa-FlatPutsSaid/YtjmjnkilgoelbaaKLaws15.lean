/-
  Laws15: What the laws of layer 15 share: copselaw15.lives.
-/
import Derived.Test.YtjmjnkilgoelbaaJ7a
import Derived.Test.YtjmjnkilgoelbaaJ2b
import Derived.Test.YtjmjnkilgoelbaaKFlatV
import Derived.Test.YtjmjnkilgoelbaaKSameU
namespace Go.Proofs.Ytjmjnkilgoelbaa
open Go.RowKit

def treeF : TreeP := ⟨1, [⟨[1], 3, 1, 2, 3⟩, ⟨[], 0, 0, 0, 2⟩, ⟨[], 0, 0, 0, 1⟩]⟩

theorem treeF_tree : IsTree treeF := by
  have q1 : Sub treeF 1 2 0 2 := Sub.leaf (n := ⟨[], 0, 0, 0, 2⟩) rfl rfl
  have q2 : Sub treeF 2 3 0 1 := Sub.leaf (n := ⟨[], 0, 0, 0, 1⟩) rfl rfl
  have q0 : Sub treeF 0 3 (1 + max 0 0) 3 := Sub.node (n := ⟨[1], 3, 1, 2, 3⟩) rfl rfl rfl q1 rfl q2 rfl
  exact ⟨by decide, by decide, _, _, q0, by decide, by decide⟩

theorem treeF_B : treeB treeF = true := treeB_true.2 treeF_tree

theorem treeF_V2 : lenV treeF [2] = 2147483648 := by
  unfold lenV
  rw [show (wayL treeF [2]).getLast? = some 1 from rfl]
  rfl

theorem treeF_V3 : lenV treeF [3] = 1073741824 := by
  unfold lenV
  rw [show (wayL treeF [3]).getLast? = some 2 from rfl]
  rfl

theorem treeF_V9 : lenV treeF [9] = 1073741824 := by
  unfold lenV
  rw [show (wayL treeF [9]).getLast? = some 2 from rfl]
  rfl

theorem ofC_F : ofC [treeF] = 0 := by
  unfold ofC
  rw [if_neg (by decide), if_neg]
  unfold allT okT
  simp only [List.all_cons, List.all_nil, treeF_B]
  decide

theorem putC_F : putC [treeF] 1 treeF = 0 := by
  unfold putC
  rw [if_neg (by decide), if_neg (by decide), if_neg (by decide), if_neg (by rw [treeF_B]; decide), if_neg]
  rintro ⟨_, h, _⟩
  exact h rfl

theorem putL_F : putL [treeF] 1 treeF = [treeF, treeF] := by unfold putL; rw [if_pos putC_F]; rfl

theorem fsE_F {x : Int} (h : vecB [x] 1 = true) : fsE [treeF, treeF] [x] = 0 := by
  unfold fsE
  rw [if_neg (by simp), if_neg]
  rw [show dimL [treeF, treeF] = 1 from rfl, h]
  decide

theorem fsV_F {x y : Int} (h : vecB [x] 1 = true) (hy : lenV treeF [x] = y) : fsV [treeF, treeF] [x] = 2 * y := by
  unfold fsV
  rw [if_pos (fsE_F h)]
  unfold sumV
  simp only [List.map_cons, List.map_nil, hy, sumI]
  omega

theorem fbC_F : fbC [treeF, treeF] [[2], [3]] = 0 := by
  unfold fbC
  rw [if_neg (by simp)]
  exact fbE_all fun y hy => by
    simp only [List.mem_cons, List.not_mem_nil, or_false] at hy
    rcases hy with rfl | rfl <;> exact fsE_F rfl

theorem fbV_F : [[2], [3]].map (fsV [treeF, treeF]) = [4294967296, 2147483648] := by
  simp only [List.map_cons, List.map_nil]
  rw [fsV_F rfl treeF_V2, fsV_F rfl treeF_V3]
  rfl

theorem dimL_F : dimL [treeF, treeF] = 1 := rfl

theorem sameT_self (t : TreeP) : sameT t t = true := by unfold sameT; simp

theorem trees1 (s : Value) (t : TreeP) (W : World) (T : TypeId) (b : Nat) (hb : b = W.heap.size) (h : NodesR W s t.nodes) (d : Int) (hd : t.dim = d) :
    TreesR (W.alloc (.cells #[.int .i64 d, s] T)) (.slice (some ⟨b, 0, none⟩) 1 1) [t] := by
  subst hb hd
  have hn := h.below (w' := W.alloc (.cells #[.int .i64 t.dim, s] T)) ((Below.refl _ _).alloc (Nat.le_refl _) _)
  refine ⟨_, _, rfl, by simp, by decide, by simp, fun i t' hi => ?_⟩
  have hr : RowAt (W.alloc (.cells #[.int .i64 t.dim, s] T)) W.heap.size T #[.int .i64 t.dim, s] := row_new rfl
  match i, hi with
  | 0, hi =>
    obtain rfl : t = t' := by simpa using hi
    exact ⟨_, _, s, rfl, by simp, (hr.cell 0).trans rfl, (hr.cell 1).trans rfl, hn⟩
  | i + 1, hi => simp at hi

theorem rows2 (u u2 : Value) (x x2 : List Int) (W : World) (T : TypeId) (b : Nat) (hb : b = W.heap.size) (h : Ints .i64 W u x) (h2 : Ints .i64 W u2 x2) :
    RowsR (W.alloc (.cells #[u, u2] T)) (.slice (some ⟨b, 0, none⟩) 2 2) [x, x2] := by
  subst hb
  have hB : Below W.heap.size W (W.alloc (.cells #[u, u2] T)) := (Below.refl _ _).alloc (Nat.le_refl _) _
  refine ⟨_, _, rfl, by simp, by decide, by simp, fun i t' hi => ?_⟩
  have hr : RowAt (W.alloc (.cells #[u, u2] T)) W.heap.size T #[u, u2] := row_new rfl
  match i, hi with
  | 0, hi =>
    obtain rfl : x = t' := by simpa using hi
    exact ⟨_, _, u, rfl, by simp, (hr.cell 0).trans rfl, h.below hB⟩
  | 1, hi =>
    obtain rfl : x2 = t' := by simpa using hi
    exact ⟨_, _, u2, rfl, by simp, (hr.cell 1).trans rfl, h2.below hB⟩
  | i + 2, hi => simp at hi

theorem ints6 (a b c d e f : Int) (W : World) (T : TypeId) (g : Nat) (hb : g = W.heap.size) : Ints .i64 (W.alloc (.cells #[.int .i64 a, .int .i64 b, .int .i64 c, .int .i64 d, .int .i64 e, .int .i64 f] T)) (.slice (some ⟨g, 0, none⟩) 6 6) [a, b, c, d, e, f] :=
  Ints.new' .i64 W T #[.int .i64 a, .int .i64 b, .int .i64 c, .int .i64 d, .int .i64 e, .int .i64 f] [a, b, c, d, e, f] g 6 6 hb rfl rfl (by omega) (by omega)

set_option maxRecDepth 100000 in
set_option maxHeartbeats 8000000 in
theorem lives15_any (w : World) : Calls Try.prog 59 #[] w fun e w' => e = .returned (.bool true) ∧ Below w.heap.size w w' := by
  go_enter Try.func59, Try.ntmps59
  go_wp2_with fail
  obtain ⟨UA, hUA⟩ : ∃ U, (((w.alloc (.cells #[.int .i64 1] 3)).alloc (.cells #[.slice (some ⟨w.heap.size, 0, none⟩) 1 1, .int .i64 3, .int .i64 1, .int .i64 2, .int .i64 3, .slice none 0 0, .int .i64 0, .int .i64 0, .int .i64 0, .int .i64 2, .slice none 0 0, .int .i64 0, .int .i64 0, .int .i64 0, .int .i64 1] 190)).alloc (.cells #[.int .i64 1, .slice (some ⟨w.heap.size + 1, 0, none⟩) 3 3] 106)) = U := ⟨_, rfl⟩
  have hBA : Below w.heap.size w UA := by rw [← hUA]; (repeat (first | with_reducible exact Below.refl _ _ | with_reducible refine Bs ?_ | with_reducible refine Ba ?_ | with_reducible refine Bd ?_ | with_reducible refine Bn ?_))
  have hzA : UA.heap.size = w.heap.size + 1 + 1 + 1 := by rw [← hUA]; simp
  have hNO : NodesR UA (.slice (some ⟨w.heap.size + 1, 0, none⟩) 3 3) treeF.nodes := by
    have h0 : Ints .i64 (w.alloc (.cells #[.int .i64 1] 3)) (.slice (some ⟨w.heap.size, 0, none⟩) 1 1) [1] := ints1 1 w 3 w.heap.size rfl
    have hr : RowAt UA (w.heap.size + 1) 190 #[.slice (some ⟨w.heap.size, 0, none⟩) 1 1, .int .i64 3, .int .i64 1, .int .i64 2, .int .i64 3, .slice none 0 0, .int .i64 0, .int .i64 0, .int .i64 0, .int .i64 2, .slice none 0 0, .int .i64 0, .int .i64 0, .int .i64 0, .int .i64 1] := by
      rw [← hUA]
      exact (show Below (w.heap.size + 1 + 1) _ _ from by (repeat (first | with_reducible exact Below.refl _ _ | with_reducible refine Bs ?_ | with_reducible refine Ba ?_ | with_reducible refine Bd ?_ | with_reducible refine Bn ?_))).block _ (by omega) |>.trans (row_new (W := w.alloc _) (by simp))
    have h1 : Ints .i64 UA (.slice (some ⟨w.heap.size, 0, none⟩) 1 1) [1] := by rw [← hUA]; exact h0.below (by (repeat (first | with_reducible exact Below.refl _ _ | with_reducible refine Bs ?_ | with_reducible refine Ba ?_ | with_reducible refine Bd ?_ | with_reducible refine Bn ?_)))
    refine ⟨_, _, rfl, by decide, by decide, by decide, fun i n hi => ?_⟩
    match i, hi with
    | 0, hi =>
      obtain rfl : (⟨[1], 3, 1, 2, 3⟩ : NodeP) = n := by simpa [treeF] using hi
      exact ⟨_, _, rfl, hr.lt, _, h1, (hr.cell _).trans rfl, (hr.cell _).trans rfl, (hr.cell _).trans rfl, (hr.cell _).trans rfl, (hr.cell _).trans rfl⟩
    | 1, hi =>
      obtain rfl : (⟨[], 0, 0, 0, 2⟩ : NodeP) = n := by simpa [treeF] using hi
      exact ⟨_, _, rfl, hr.lt, _, ints_nil _ _ none 0 (by omega), (hr.cell _).trans rfl, (hr.cell _).trans rfl, (hr.cell _).trans rfl, (hr.cell _).trans rfl, (hr.cell _).trans rfl⟩
    | 2, hi =>
      obtain rfl : (⟨[], 0, 0, 0, 1⟩ : NodeP) = n := by simpa [treeF] using hi
      exact ⟨_, _, rfl, hr.lt, _, ints_nil _ _ none 0 (by omega), (hr.cell _).trans rfl, (hr.cell _).trans rfl, (hr.cell _).trans rfl, (hr.cell _).trans rfl, (hr.cell _).trans rfl⟩
    | i + 3, hi => simp [treeF] at hi
  have t0 : UA.cell? ⟨w.heap.size + 1 + 1, 0, none⟩ = some (.int .i64 1) := by subst hUA; go_simp
  have t1 : UA.cell? ⟨w.heap.size + 1 + 1, 1, none⟩ = some (.slice (some ⟨w.heap.size + 1, 0, none⟩) 3 3) := by subst hUA; go_simp
  rw [hUA]
  have HNO := Lib.hid hNO
  have HT := Lib.hid (show TreeR UA (.agg #[.int .i64 1, .slice (some ⟨w.heap.size + 1, 0, none⟩) 3 3]) treeF from ⟨_, rfl, hNO⟩)
  have BA := Lib.hid hBA
  have T0 := Lib.hid t0
  have T1 := Lib.hid t1
  have h1 := fun W v (hW : TreesR W v [treeF]) => pack_of v [treeF] W hW
  simp only [ofC_F] at h1
  have H1 := Lib.hid h1
  have HZA := Lib.hid hzA
  clear h1 hUA hNO hBA
  have hz0 : w.heap.size + 1 + 1 < UA.heap.size := by omega
  (with_reducible refine (H1.out _ _ (trees1 (.slice (some ⟨w.heap.size + 1, 0, none⟩) 3 3) treeF UA 106 _ HZA.out.symm HNO.out 1 rfl)).mono ?_)
  rintro e w1 ⟨pv, rfl, b1, _, hok⟩
  obtain ⟨P, vs, nv, rfl, hp, hf⟩ := hok (by first | trivial | rfl)
  have B1 := Lib.hid (show Below UA.heap.size UA w1 from (show Below UA.heap.size UA _ from by (repeat (first | with_reducible exact Below.refl _ _ | with_reducible refine Bs ?_ | with_reducible refine Ba ?_ | with_reducible refine Bd ?_ | with_reducible refine Bn ?_))).trans (b1.mono (by simp)))
  have hf1 : ∀ b, b ∈ P :: rowsB vs → UA.heap.size ≤ b := fun b hb => by have := hf b hb; simp at this; omega
  have hz1 := B1.out.size
  have h2 := fput_any 1 (.agg #[.int .i64 1, .slice (some ⟨w.heap.size + 1, 0, none⟩) 3 3]) treeF w1 hp (fun W hW => HT.out.below (B1.out.trans (hW.below hf1 hz1))) b1.size
  rw [putC_F, putL_F] at h2
  have H2 := Lib.hid h2
  have HF1 := Lib.hid hf1
  clear h2 b1 hok hp hf hf1 H1
  have t0 := (B1.out.cell (p := ⟨w.heap.size + 1 + 1, 0, none⟩) hz0).trans T0.out
  have t1 := (B1.out.cell (p := ⟨w.heap.size + 1 + 1, 1, none⟩) hz0).trans T1.out
  go_wp2_with fail
  (with_reducible refine H2.out.mono ?_)
  rintro e w2 ⟨rfl, vs2, hp2, ho2, _⟩
  have B2 := Lib.hid (show Below UA.heap.size UA w2 from B1.out.trans (ho2.below HF1.out hz1))
  have hz2 := B2.out.size
  have HP := Lib.hid hp2
  have HS := Lib.hid (fun W u (hW : Below w2.heap.size w2 W) (hX : Ints .i64 W u [9]) => fSum_any u [9] W (HP.out.below hW) hX)
  rw [fsE_F rfl, fsV_F rfl treeF_V9] at HS
  have HB := Lib.hid (fun W u (hW : Below w2.heap.size w2 W) (hX : RowsR W u [[2], [3]]) => batch_any u [[2], [3]] W (HP.out.below hW) hX (by decide))
  simp only [fbC_F, fbV_F] at HB
  have htr := fun W (hW : Below w2.heap.size w2 W) => ftree_in 1 treeF W (HP.out.below hW) rfl
  rw [show ((1 : Nat) : Int) = 1 from rfl] at htr
  have HTR := Lib.hid htr
  clear htr
  have HC := Lib.hid (fun W (hW : Below w2.heap.size w2 W) => cells_any W (HP.out.below hW))
  have HL := Lib.hid (fun W (hW : Below w2.heap.size w2 W) => flen_any (HP.out.below hW))
  rw [dimL_F] at HTR HC
  clear hp2 ho2 t0 t1 H2
  have B2W := Lib.hid (show Below w2.heap.size w2 w2 from Below.refl _ _)
  go_wp2_with fail
  (with_reducible refine (HS.out _ _ (by (repeat (first | with_reducible exact Below.refl _ _ | with_reducible refine Bs ?_ | with_reducible refine Ba ?_ | with_reducible refine Bd ?_ | with_reducible refine Bn ?_))) (ints1 _ _ _ _ (by simp))).mono ?_)
  rintro e w3 ⟨rfl, d3, hw3⟩
  have B3 := Lib.hid (show Below w2.heap.size w2 w3 from by rw [hw3]; (repeat (first | with_reducible exact Below.refl _ _ | with_reducible refine Bs ?_ | with_reducible refine Ba ?_ | with_reducible refine Bd ?_ | with_reducible refine Bn ?_)))
  have hz3 := B3.out.size
  clear hw3
  go_wp2_with fail
  (with_reducible refine (HB.out _ _ (by (repeat (first | with_reducible exact Below.refl _ _ | with_reducible refine Bs ?_ | with_reducible refine Ba ?_ | with_reducible refine Bd ?_ | with_reducible refine Bn ?_ | with_reducible refine Bt B3.out ?_))) (rows2 _ _ [2] [3] ((w3.alloc (.cells #[.int .i64 2] 3)).alloc (.cells #[.int .i64 3] 3)) _ _ (by simp) ((ints1 2 w3 3 _ rfl).below (by (repeat (first | with_reducible exact Below.refl _ _ | with_reducible refine Bs ?_ | with_reducible refine Ba ?_ | with_reducible refine Bd ?_ | with_reducible refine Bn ?_)))) (ints1 3 (w3.alloc (.cells #[.int .i64 2] 3)) 3 _ (by simp)))).mono ?_)
  rintro e w4 ⟨bv, rfl, b4, hbv, _⟩
  have hbv := hbv (by first | trivial | rfl)
  obtain ⟨ba, bc, rfl⟩ := hbv.shape
  have HBV := Lib.hid hbv
  have B4 := Lib.hid (show Below w2.heap.size w2 w4 from below_tr (show Below w2.heap.size w2 _ from by (repeat (first | with_reducible exact Below.refl _ _ | with_reducible refine Bs ?_ | with_reducible refine Ba ?_ | with_reducible refine Bd ?_ | with_reducible refine Bn ?_ | with_reducible refine Bt B3.out ?_))) (b4.mono (by first | omega | (simp; done) | (simp; omega))))
  have hz4 := B4.out.size
  clear hbv b4
  go_wp2_with fail
  (with_reducible refine (HTR.out _ (by (repeat (first | with_reducible exact Below.refl _ _ | with_reducible refine Bs ?_ | with_reducible refine Ba ?_ | with_reducible refine Bd ?_ | with_reducible refine Bn ?_ | with_reducible refine Bt B4.out ?_)))).mono ?_)
  rintro e w5 ⟨tv, rfl, htv, b5⟩
  obtain ⟨ta, tc, hta⟩ : ∃ a c, tv = .slice a 3 c := by
    obtain ⟨a, c, h, _⟩ := htv
    exact ⟨a, c, h⟩
  subst hta
  have HTV := Lib.hid htv
  have B5 := Lib.hid (show Below w2.heap.size w2 w5 from B4.out.trans (b5.mono B4.out.size))
  have HBV := Lib.hid (HBV.out.below b5)
  have hz5 := B5.out.size
  clear htv b5
  go_wp2_with fail
  (with_reducible refine (fSum_nil _ [] _ (ints_nil _ _ _ _ (by omega))).mono ?_)
  rintro e w6 ⟨rfl, rfl⟩
  go_wp2_with fail
  (with_reducible refine (HC.out _ (by (repeat (first | with_reducible exact Below.refl _ _ | with_reducible refine Bs ?_ | with_reducible refine Ba ?_ | with_reducible refine Bd ?_ | with_reducible refine Bn ?_ | with_reducible refine Bt B5.out ?_)))).mono ?_)
  rintro e w7 ⟨cu1, cu2, cu3, cu4, cu5, cu6, cu7, rfl, hc, b7⟩
  obtain ⟨e1, g1, rfl⟩ := (hc 0 _ _ rfl rfl).shape
  obtain ⟨e2, g2, rfl⟩ := (hc 1 _ _ rfl rfl).shape
  obtain ⟨e3, g3, rfl⟩ := (hc 2 _ _ rfl rfl).shape
  obtain ⟨e4, g4, rfl⟩ := (hc 3 _ _ rfl rfl).shape
  obtain ⟨e5, g5, rfl⟩ := (hc 4 _ _ rfl rfl).shape
  obtain ⟨e6, g6, rfl⟩ := (hc 5 _ _ rfl rfl).shape
  obtain ⟨e7, g7, rfl⟩ := (hc 6 _ _ rfl rfl).shape
  have HCU1 := Lib.hid (show Ints .i64 w7 (.slice e1 2 g1) [0, 3] from hc 0 _ _ rfl rfl)
  have HCU4 := Lib.hid (show Ints .i64 w7 (.slice e4 6 g4) [1, 0, 0, 4, 0, 0] from hc 3 _ _ rfl rfl)
  have b57 : Below w5.heap.size w5 w7 := below_tr (by (repeat (first | with_reducible exact Below.refl _ _ | with_reducible refine Bs ?_ | with_reducible refine Ba ?_ | with_reducible refine Bd ?_ | with_reducible refine Bn ?_))) (b7.mono (by first | omega | (simp; done) | (simp; omega)))
  have u0 : w7.cell? ⟨w5.heap.size, 0, none⟩ = some (.int .i64 1) := (b7.cell (p := ⟨w5.heap.size, 0, none⟩) (by simp)).trans (by go_simp)
  have u1 : w7.cell? ⟨w5.heap.size, 1, none⟩ = some (.slice ta 3 tc) := (b7.cell (p := ⟨w5.heap.size, 1, none⟩) (by simp)).trans (by go_simp)
  have B7 := Lib.hid (show Below w2.heap.size w2 w7 from B5.out.trans (b57.mono B5.out.size))
  have HBV := Lib.hid (HBV.out.below b57)
  have HTV := Lib.hid (HTV.out.below b57)
  have hz7 := B7.out.size
  have hz57 := b57.size
  have hu7 := World.block_lt_of_cell? _ _ u0
  dsimp only at hu7
  have t0 := ((B2.out.trans (B7.out.mono hz2)).cell (p := ⟨w.heap.size + 1 + 1, 0, none⟩) hz0).trans T0.out
  have t1 := ((B2.out.trans (B7.out.mono hz2)).cell (p := ⟨w.heap.size + 1 + 1, 1, none⟩) hz0).trans T1.out
  have HT7 := Lib.hid (HT.out.below (B2.out.trans (B7.out.mono hz2)))
  clear hc b7 b57
  rw [show (startsL 0 [treeF, treeF]).length = 2 from rfl, show (leftL 0 [treeF, treeF]).length = 6 from rfl]
  have hzT : w.heap.size + 1 + 1 < w7.heap.size := by omega
  go_wp2_with fail
  refine (same_self _ _ _ _ (HBV.out.below (by (repeat (first | with_reducible exact Below.refl _ _ | with_reducible refine Bs ?_ | with_reducible refine Ba ?_ | with_reducible refine Bd ?_ | with_reducible refine Bn ?_)))) (ints2 _ _ _ _ _ (by simp))).mono ?_
  rintro e w8 ⟨rfl, d8, hw8⟩
  have B8 := Lib.hid (show Below w7.heap.size w7 w8 from by rw [hw8]; (repeat (first | with_reducible exact Below.refl _ _ | with_reducible refine Bs ?_ | with_reducible refine Ba ?_ | with_reducible refine Bd ?_ | with_reducible refine Bn ?_)))
  have v1 : w8.cell? ⟨w7.heap.size, 1, none⟩ = some (.slice e1 2 g1) := by rw [hw8]; go_simp
  have v4 : w8.cell? ⟨w7.heap.size, 4, none⟩ = some (.slice e4 6 g4) := by rw [hw8]; go_simp
  clear hw8
  have hz8 := B8.out.size
  have u0 : w8.cell? ⟨w5.heap.size, 0, none⟩ = some (.int .i64 1) := (B8.out.cell (p := ⟨w5.heap.size, 0, none⟩) hu7).trans u0
  have u1 : w8.cell? ⟨w5.heap.size, 1, none⟩ = some (.slice ta 3 tc) := (B8.out.cell (p := ⟨w5.heap.size, 1, none⟩) hu7).trans u1
  have t0 := (B8.out.cell (p := ⟨w.heap.size + 1 + 1, 0, none⟩) hzT).trans t0
  have t1 := (B8.out.cell (p := ⟨w.heap.size + 1 + 1, 1, none⟩) hzT).trans t1
  have hu8 := World.block_lt_of_cell? _ _ u0
  have hv8 := World.block_lt_of_cell? _ _ v1
  have ht8 := World.block_lt_of_cell? _ _ t0
  dsimp only at hu8 hv8 ht8
  go_wp2_with fail
  have hs9 := fun W (hW : Below w8.heap.size w8 W) => r10same_any _ _ treeF treeF W (HT7.out.below (B8.out.trans (hW.mono hz8))) (show TreeR W (.agg #[.int .i64 1, .slice ta 3 tc]) treeF from ⟨_, rfl, HTV.out.below (B8.out.trans (hW.mono hz8))⟩)
  rw [sameT_self] at hs9
  have HS9 := Lib.hid hs9
  clear hs9
  (with_reducible refine (HS9.out _ (by (repeat (first | with_reducible exact Below.refl _ _ | with_reducible refine Bs ?_ | with_reducible refine Ba ?_ | with_reducible refine Bd ?_ | with_reducible refine Bn ?_)))).mono ?_)
  rintro e w9 ⟨rfl, b9⟩
  have v1 : w9.cell? ⟨w7.heap.size, 1, none⟩ = some (.slice e1 2 g1) := (b9.cell (p := ⟨w7.heap.size, 1, none⟩) hv8).trans v1
  have v4 : w9.cell? ⟨w7.heap.size, 4, none⟩ = some (.slice e4 6 g4) := (b9.cell (p := ⟨w7.heap.size, 4, none⟩) hv8).trans v4
  have B9 := Lib.hid (show Below w7.heap.size w7 w9 from B8.out.trans (b9.mono hz8))
  have hv9 := World.block_lt_of_cell? _ _ v1
  dsimp only at hv9
  clear b9
  go_wp2_with fail
  (with_reducible refine (HL.out _ (B7.out.trans (B9.out.mono hz7))).mono ?_)
  rintro e w10 ⟨rfl, rfl⟩
  go_wp2_with fail
  (with_reducible refine (flen_nil _).mono ?_)
  rintro e w11 ⟨rfl, rfl⟩
  go_wp2_with fail
  refine (same_self _ _ _ _ (HCU1.out.below (by (repeat (first | with_reducible exact Below.refl _ _ | with_reducible refine Bs ?_ | with_reducible refine Ba ?_ | with_reducible refine Bd ?_ | with_reducible refine Bn ?_ | with_reducible refine Bt B9.out ?_)))) (ints2 _ _ _ _ _ (by simp))).mono ?_
  rintro e w12 ⟨rfl, d12, hw12⟩
  have B12 := Lib.hid (show Below w7.heap.size w7 w12 from by rw [hw12]; (repeat (first | with_reducible exact Below.refl _ _ | with_reducible refine Bs ?_ | with_reducible refine Ba ?_ | with_reducible refine Bd ?_ | with_reducible refine Bn ?_ | with_reducible refine Bt B9.out ?_)))
  have v4 : w12.cell? ⟨w7.heap.size, 4, none⟩ = some (.slice e4 6 g4) := by rw [hw12]; go_simp
  have hv12 := World.block_lt_of_cell? _ _ v4
  dsimp only at hv12
  clear hw12
  go_wp2_with fail
  refine (same_self _ _ _ _ (HCU4.out.below (by (repeat (first | with_reducible exact Below.refl _ _ | with_reducible refine Bs ?_ | with_reducible refine Ba ?_ | with_reducible refine Bd ?_ | with_reducible refine Bn ?_ | with_reducible refine Bt B12.out ?_)))) (ints6 _ _ _ _ _ _ _ _ _ (by simp))).mono ?_
  rintro e w13 ⟨rfl, d13, hw13⟩
  have B13 := Lib.hid (show Below w7.heap.size w7 w13 from by rw [hw13]; (repeat (first | with_reducible exact Below.refl _ _ | with_reducible refine Bs ?_ | with_reducible refine Ba ?_ | with_reducible refine Bd ?_ | with_reducible refine Bn ?_ | with_reducible refine Bt B12.out ?_)))
  clear hw13
  go_wp2_with fail
  go_ret
  exact ⟨rfl, BA.out.trans ((B2.out.trans ((B7.out.trans (B13.out.mono hz7)).mono hz2)).mono BA.out.size)⟩
end Go.Proofs.Ytjmjnkilgoelbaa
