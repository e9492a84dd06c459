/-
  PathA: Walk of path.way: down a tree with a vector, each node told.
  PathB: Walks of path.length, Length and Trail.
  PathC: Walk of path.leaves: each leaf told, with its length.
  PathD: Walks of path.Ends and Weight.
  SameT: Walks of copseref09.Same and copseref10.Same.
  RefPathA: Walks of copseref10.Down, Leaf, of copseref11.Above and of copseref12.Length, Trail.
  RefPathB: Walks of copseref11.Above and of copseref12.Length, Trail.
  ForJ: Walk of tree.Leaf.
  ForR: Walks of slices.Equal of integers and of cut.Same.
  RefPathE: Walks of copseref11.Leaves, Parents, Depths.
-/
import Derived.Test.YtdbonlpkmncggaaKTreeA
import Derived.Test.YtdbonlpkmncggaaJ0a
import Derived.BigRegion
import Derived.Test.YtdbonlpkmncggaaKRefTreeA
import Derived.Test.YtdbonlpkmncggaaJ0b
namespace Go.Proofs.Ytdbonlpkmncggaa
open Go.RowKit

theorem wayT_head (t : TreeP) (x : List Int) (f i : Nat) : (wayT t x f i)[0]? = some i := by
  cases f with
  | zero => rfl
  | succ f =>
    rw [wayT]
    split
    · rfl
    · split <;> rfl

theorem leftR_ok {c x : List Int} {a dim : Int} (hc : cutB c a dim = true) (hx : vecB x dim = true) : leftR c a x = (decide (dotI c x < a), 0) := by
  have hc2 := hc
  rw [cutB_is] at hc2
  simp only [Bool.and_eq_true] at hc2
  obtain ⟨_, _, h3, _⟩ := partsB_yes hc2.2
  rw [← h3] at hc hx hc2
  unfold leftR dotOk
  rw [hc, hc2.2, hx]
  rfl

/-- The nodes on the way of a vector through a tree. -/
def wayL (t : TreeP) (x : List Int) : List Nat := wayT t x 6 0
noncomputable def pathE (t : TreeP) (x : List Int) : Int := if treeB t = true then (if vecB x t.dim = true then 0 else 80) else 100

theorem cell_of_block {w w' : World} {b o : Nat} (h : w'.heap[b]? = w.heap[b]?) : w'.cell? ⟨b, o, none⟩ = w.cell? ⟨b, o, none⟩ := World.cell?_of_block (a := ⟨b, o, none⟩) h

set_option maxRecDepth 100000 in
set_option maxHeartbeats 4000000 in
theorem way_any (v vx : Value) (t : TreeP) (x : List Int) (f : FuncId) (caps : Array Value) (lo : Nat) (I : Nat → World → Prop) (w : World) (hcf : ∀ args W, Sem.run Try.prog (callFunc f args) W = Result.ok (Next.enter f args) W) (h : TreeR w v t) (hx : Ints .i64 w vx x)
    (hlo : ∀ W, Below lo w W → TreeR W v t ∧ Ints .i64 W vx x) (hlo2 : lo ≤ w.heap.size) (hst : ∀ k W W', I k W → Below W.heap.size W W' → I k W') (hI : I 0 w)
    (hT : ∀ (k j : Nat) W, (wayL t x)[k]? = some j → k ≤ 6 → I k W → w.heap.size < W.heap.size → Calls Try.prog f (#[.int .i64 (j : Int), .int .i64 (k : Int)] ++ caps) W fun e w' => (∃ r, e = .returned r) ∧ I (k + 1) w' ∧ Below lo W w' ∧ w'.heap[w.heap.size]? = W.heap[w.heap.size]?) :
    Calls Try.prog 80 #[v, vx, .func (.func f) #[] caps] w fun e w' => e = .returned (.int .i64 (pathE t x)) ∧ I (if pathE t x = 0 then (wayL t x).length else 0) w' ∧ Below lo w w' := by
  have HT := Lib.hid hT
  have HST := Lib.hid hst
  have HLO := Lib.hid hlo
  have HI0 := Lib.hid hI
  have HTR := Lib.hid h
  have HX := Lib.hid hx
  clear hT hst hlo hI
  obtain ⟨nv, rfl, ad, cc, rfl, _, _, q3, hcell⟩ := h
  obtain ⟨ax, cx, rfl, _⟩ := hx
  unfold pathE
  cases hB : treeB t with
  | false =>
    have HC1 := Lib.hid (fun W (hW : TreeR W (.agg #[.int .i64 t.dim, .slice ad t.nodes.length cc]) t) => hB ▸ tis_any _ t W hW)
    clear hB hcell
    generalize t.nodes.length = n at *
    generalize t.dim = D at *
    generalize x.length = m at *
    go_enter Try.func80, Try.ntmps80
    go_wp2_with fail
    (with_reducible refine (HC1.out _ (HTR.out.below (by (repeat (first | with_reducible exact Below.refl _ _ | with_reducible refine Bs ?_ | with_reducible refine Ba ?_ | with_reducible refine Bd ?_ | with_reducible refine Bn ?_))))).mono ?_); rintro e w1 ⟨rfl, b1⟩; have s1 : w.heap.size + 1 ≤ w1.heap.size := sz b1; have B1 := Lib.hid (Bc (B := w.heap.size) (a := w) (by (repeat (first | with_reducible exact Below.refl _ _ | with_reducible refine Bs ?_ | with_reducible refine Ba ?_ | with_reducible refine Bd ?_ | with_reducible refine Bn ?_))) b1); obtain ⟨c1_0, c1_1⟩ := k2 (w.heap.size) (.int .i64 D) (.slice ad n cc) b1 (by and_intros <;> go_simp); obtain ⟨l1_0, n1_0, m1_0⟩ := lnm (show w.heap.size < w1.heap.size by omega); clear b1
    go_wp2_with fail
    go_ret
    exact ⟨rfl, HST.out 0 _ _ HI0.out (by (repeat (first | with_reducible exact Below.refl _ _ | with_reducible refine Bs ?_ | with_reducible refine Ba ?_ | with_reducible refine Bd ?_ | with_reducible refine Bn ?_ | with_reducible refine Bt B1.out ?_))), (show Below w.heap.size w w1 from by (repeat (first | with_reducible exact Below.refl _ _ | with_reducible refine Bs ?_ | with_reducible refine Ba ?_ | with_reducible refine Bd ?_ | with_reducible refine Bn ?_ | with_reducible refine Bt B1.out ?_))).mono hlo2⟩
  | true =>
    cases hV : vecB x t.dim with
    | false =>
      have HC1 := Lib.hid (fun W (hW : TreeR W (.agg #[.int .i64 t.dim, .slice ad t.nodes.length cc]) t) => hB ▸ tis_any _ t W hW)
      have HC2 := Lib.hid (fun W (hW : Ints .i64 W (.slice ax x.length cx) x) => hV ▸ vis_any _ x t.dim W hW)
      clear hB hV hcell
      generalize t.nodes.length = n at *
      generalize t.dim = D at *
      generalize x.length = m at *
      go_enter Try.func80, Try.ntmps80
      go_wp2_with fail
      (with_reducible refine (HC1.out _ (HTR.out.below (by (repeat (first | with_reducible exact Below.refl _ _ | with_reducible refine Bs ?_ | with_reducible refine Ba ?_ | with_reducible refine Bd ?_ | with_reducible refine Bn ?_))))).mono ?_); rintro e w1 ⟨rfl, b1⟩; have s1 : w.heap.size + 1 ≤ w1.heap.size := sz b1; have B1 := Lib.hid (Bc (B := w.heap.size) (a := w) (by (repeat (first | with_reducible exact Below.refl _ _ | with_reducible refine Bs ?_ | with_reducible refine Ba ?_ | with_reducible refine Bd ?_ | with_reducible refine Bn ?_))) b1); obtain ⟨c1_0, c1_1⟩ := k2 (w.heap.size) (.int .i64 D) (.slice ad n cc) b1 (by and_intros <;> go_simp); obtain ⟨l1_0, n1_0, m1_0⟩ := lnm (show w.heap.size < w1.heap.size by omega); clear b1
      go_wp2_with fail
      refine (HC2.out _ (HX.out.below (by (repeat (first | with_reducible exact Below.refl _ _ | with_reducible refine Bs ?_ | with_reducible refine Ba ?_ | with_reducible refine Bd ?_ | with_reducible refine Bn ?_ | with_reducible refine Bt B1.out ?_))))).mono ?_
      rintro e w2 ⟨rfl, rfl⟩
      go_wp2_with fail
      go_ret
      exact ⟨rfl, HST.out 0 _ _ HI0.out (by (repeat (first | with_reducible exact Below.refl _ _ | with_reducible refine Bs ?_ | with_reducible refine Ba ?_ | with_reducible refine Bd ?_ | with_reducible refine Bn ?_ | with_reducible refine Bt B1.out ?_))), (show Below w.heap.size w w1 from by (repeat (first | with_reducible exact Below.refl _ _ | with_reducible refine Bs ?_ | with_reducible refine Ba ?_ | with_reducible refine Bd ?_ | with_reducible refine Bn ?_ | with_reducible refine Bt B1.out ?_))).mono hlo2⟩
    | true =>
      have HC1 := Lib.hid (fun W (hW : TreeR W (.agg #[.int .i64 t.dim, .slice ad t.nodes.length cc]) t) => hB ▸ tis_any _ t W hW)
      have HC2 := Lib.hid (fun W (hW : Ints .i64 W (.slice ax x.length cx) x) => hV ▸ vis_any _ x t.dim W hW)
      obtain ⟨d1, d2, h0, s0, hsub, hs64, hlog⟩ := treeB_true.1 hB
      have h6 : h0 ≤ 6 := Nat.le_trans hlog (logI_le hs64)
      have HV := Lib.hid hV
      have HSUB := Lib.hid hsub
      have hn1 := hsub.lt
      clear hB hV hsub hlog
      obtain ⟨n, hn⟩ : ∃ n, t.nodes.length = n := ⟨_, rfl⟩
      rw [hn] at q3 HTR HC1 HSUB hn1 HLO ⊢
      have HL := Lib.hid hn
      obtain ⟨b, o, rfl⟩ : ∃ b o, ad = some ⟨b, o, none⟩ := by
        obtain ⟨nd, hnd⟩ := getElem?_ex (l := t.nodes) (k := 0) (by omega)
        obtain ⟨b, o, e, _⟩ := hcell 0 nd hnd
        exact ⟨b, o, e⟩
      obtain ⟨m, hm⟩ : ∃ m, x.length = m := ⟨_, rfl⟩
      rw [hm] at HX HC2 HLO ⊢
      obtain ⟨D, hD⟩ : ∃ D, t.dim = D := ⟨_, rfl⟩
      rw [hD] at HTR HC1 HC2 HV HLO ⊢
      have HD := Lib.hid hD
      clear hcell hn hm hD
      have hT0 := fun W => HT.out 0 0 W (wayT_head t x 6 0) (by omega)
      rw [Int.natCast_zero] at hT0
      have HT0 := Lib.hid hT0
      clear hT0
      simp only [if_true]
      go_enter Try.func80, Try.ntmps80
      go_wp2_with fail
      (with_reducible refine (HC1.out _ (HTR.out.below (by (repeat (first | with_reducible exact Below.refl _ _ | with_reducible refine Bs ?_ | with_reducible refine Ba ?_ | with_reducible refine Bd ?_ | with_reducible refine Bn ?_))))).mono ?_); rintro e w1 ⟨rfl, b1⟩; have s1 : w.heap.size + 1 ≤ w1.heap.size := sz b1; have B1 := Lib.hid (Bc (B := w.heap.size) (a := w) (by (repeat (first | with_reducible exact Below.refl _ _ | with_reducible refine Bs ?_ | with_reducible refine Ba ?_ | with_reducible refine Bd ?_ | with_reducible refine Bn ?_))) b1); obtain ⟨c1_0, c1_1⟩ := k2 (w.heap.size) (.int .i64 D) (.slice (some ⟨b, o, none⟩) n cc) b1 (by and_intros <;> go_simp); obtain ⟨l1_0, n1_0, m1_0⟩ := lnm (show w.heap.size < w1.heap.size by omega); clear b1
      go_wp2_with fail
      refine (HC2.out _ (HX.out.below (by (repeat (first | with_reducible exact Below.refl _ _ | with_reducible refine Bs ?_ | with_reducible refine Ba ?_ | with_reducible refine Bd ?_ | with_reducible refine Bn ?_ | with_reducible refine Bt B1.out ?_))))).mono ?_
      rintro e w2 ⟨rfl, rfl⟩
      go_wp2_with fail
      (with_reducible refine (HT0.out w1 (HST.out 0 _ _ HI0.out (by (repeat (first | with_reducible exact Below.refl _ _ | with_reducible refine Bs ?_ | with_reducible refine Ba ?_ | with_reducible refine Bd ?_ | with_reducible refine Bn ?_ | with_reducible refine Bt B1.out ?_)))) (by omega)).mono ?_)
      rintro e w3 ⟨⟨r, rfl⟩, hI1, b3, hk3⟩
      have g0 := (cell_of_block (o := 0) hk3).trans c1_0
      have g1 := (cell_of_block (o := 1) hk3).trans c1_1
      have HI1 := Lib.hid hI1
      have B3 := Lib.hid (show Below lo w w3 from below_tr ((show Below w.heap.size w w1 from by (repeat (first | with_reducible exact Below.refl _ _ | with_reducible refine Bs ?_ | with_reducible refine Ba ?_ | with_reducible refine Bd ?_ | with_reducible refine Bn ?_ | with_reducible refine Bt B1.out ?_))).mono hlo2) b3)
      have s3 := b3.size
      clear hI1 b3 hk3
      go_wp2_with fail
      go_loopw [7, 8, 9, 10, 11] (fun at_ dp _ _ _ wr => ∃ (k j e h : Nat) (s : Int) (dn : List Nat), at_ = .int .i64 j ∧ dp = .int .i64 k ∧ Sub t j e h s ∧ wayL t x = dn ++ wayT t x h j ∧ dn.length = k ∧ k + h ≤ 6 ∧ I (k + 1) wr ∧ Below lo w wr ∧ w.heap.size < wr.heap.size ∧ wr.cell? ⟨w.heap.size, 0, none⟩ = some (.int .i64 D) ∧ wr.cell? ⟨w.heap.size, 1, none⟩ = some (.slice (some ⟨b, o, none⟩) n cc)) (fun _ dp _ _ _ _ => 10 - (intOf dp).toNat)
      case atStart => exact ⟨0, 0, _, _, _, [], rfl, rfl, HSUB.out, by rw [List.nil_append]; exact (HSUB.out.way x 6 h6).1, rfl, by omega, HI1.out, B3.out, by omega, g0, g1⟩
      case round =>
        obtain ⟨k, j, e, h, s, dn, rfl, rfl, hsub, hway, hdn, hkh, hI, hbr, hsz, y0, y1⟩ := hrel
        have HI := Lib.hid hI
        have HBR := Lib.hid hbr
        have HS := Lib.hid hsub
        have HW := Lib.hid hway
        have HDN := Lib.hid hdn
        obtain ⟨nd, hnd, _⟩ := hsub.at_
        have hjn : (j : Int) < n := by have := hsub.lt; have := HL.out; omega
        have hj0 : (0 : Int) ≤ j := by omega
        obtain ⟨hbw, hat⟩ := (HLO.out wr hbr).1.node hnd
        obtain ⟨ca, ccc, hci, e0, e1, e2, e3, e4⟩ := hat.val
        have HCI := Lib.hid hci
        have HXW := Lib.hid (HLO.out wr hbr).2
        rcases hsub.inv hnd with ⟨hl, _, hh, _⟩ | ⟨m', a', b', x', y', k1, k2, k3, k4, k5, k6, k7, k8⟩
        · obtain ⟨l1, _⟩ := leafB_is hl
          have HLN := Lib.hid (show (wayL t x).length = k + 1 by rw [hway, wayT_leaf hnd l1, List.length_append, hdn]; rfl)
          rw [l1] at e2
          clear hI hbr hsub hway hdn hnd hat hci hl l1 hh
          go_wp2_with fail
          exact bodyPost_ret (v := .int .i64 0) (by simp [results, Try.results80, go_sem]) rfl ⟨rfl, by rw [HLN.out]; exact HI.out, HBR.out⟩
        · have hl0 : ¬ nd.left = 0 := by omega
          have hmt : nd.right.toNat = m' := by omega
          have HQ1 := Lib.hid k3
          have HQ2 := Lib.hid k5
          have hcl := fun W (hW : Ints .i64 W (.slice ca nd.coef.length ccc) nd.coef) (hX : Ints .i64 W (.slice ax m cx) x) => cleft_any _ _ nd.coef x nd.at_ W hW hX
          rw [leftR_ok k2 (by rw [HD.out]; exact HV.out)] at hcl
          have hw0 := wayT_node (x := x) hnd hl0 (max a' b')
          rw [hmt] at hw0
          have hway2 : wayL t x = (dn ++ [j]) ++ wayT t x (max a' b') (if leftB nd x then j + 1 else m') := by
            rw [hway, k7, Nat.add_comm 1, hw0, List.append_assoc]; rfl
          have HWY := Lib.hid hway2
          unfold leftB at HWY
          obtain ⟨LB, hlb⟩ : ∃ LB, decide (dotI nd.coef x < nd.at_) = LB := ⟨_, rfl⟩
          rw [hlb] at hcl HWY
          have HCL := Lib.hid hcl
          rw [k1] at e2
          rw [k4] at e3
          have hh : k + 1 + max a' b' ≤ 6 := by omega
          clear hI hbr hsub hway hdn hnd hat hci hl0 hmt hcl hw0 hway2 k1 k2 k3 k4 k5 k6 k7 k8 hlb
          generalize nd.at_ = xat at *
          generalize nd.size = xz at *
          generalize nd.coef.length = cl at *
          cases LB with
          | true =>
            have HWN := Lib.hid (show wayL t x = (dn ++ [j]) ++ wayT t x a' (j + 1) by rw [HWY.out, if_pos rfl, (HQ1.out.way x _ (Nat.le_max_left _ _)).1])
            have htn := fun W => HT.out (k + 1) (j + 1) W (by rw [HWN.out, List.getElem?_append_right (by simp [HDN.out]), show k + 1 - (dn ++ [j]).length = 0 by simp [HDN.out]]; exact wayT_head _ _ _ _) (by omega)
            rw [show ((j + 1 : Nat) : Int) = (j : Int) + 1 by omega, show ((k + 1 : Nat) : Int) = (k : Int) + 1 by omega] at htn
            have HTN := Lib.hid htn
            clear htn
            go_wp2_with fail
            (with_reducible refine (HCL.out _ (HCI.out.below (by (repeat (first | with_reducible exact Below.refl _ _ | with_reducible refine Bs ?_ | with_reducible refine Ba ?_ | with_reducible refine Bd ?_ | with_reducible refine Bn ?_)))) (HXW.out.below (by (repeat (first | with_reducible exact Below.refl _ _ | with_reducible refine Bs ?_ | with_reducible refine Ba ?_ | with_reducible refine Bd ?_ | with_reducible refine Bn ?_))))).mono ?_)
            rintro e w4 ⟨rfl, b4⟩
            have z0 : w4.cell? ⟨wr.heap.size, 0, none⟩ = some (.slice ca cl ccc) := (b4.cell (by first | omega | (simp; done) | (simp; omega))).trans (by go_simp)
            have z1 : w4.cell? ⟨wr.heap.size, 1, none⟩ = some (.int .i64 xat) := (b4.cell (by first | omega | (simp; done) | (simp; omega))).trans (by go_simp)
            have z2 : w4.cell? ⟨wr.heap.size, 2, none⟩ = some (.int .i64 ((j : Int) + 1)) := (b4.cell (by first | omega | (simp; done) | (simp; omega))).trans (by go_simp)
            have z3 : w4.cell? ⟨wr.heap.size, 3, none⟩ = some (.int .i64 m') := (b4.cell (by first | omega | (simp; done) | (simp; omega))).trans (by go_simp)
            have z4 : w4.cell? ⟨wr.heap.size, 4, none⟩ = some (.int .i64 xz) := (b4.cell (by first | omega | (simp; done) | (simp; omega))).trans (by go_simp)
            have t0 := (b4.cell (p := ⟨w.heap.size, 0, none⟩) (by first | omega | (simp; done) | (simp; omega))).trans (show _ = some (.int .i64 D) by go_simp)
            have t1 := (b4.cell (p := ⟨w.heap.size, 1, none⟩) (by first | omega | (simp; done) | (simp; omega))).trans (show _ = some (.slice (some ⟨b, o, none⟩) n cc) by go_simp)
            have B4 := Lib.hid (show Below wr.heap.size wr w4 from below_tr (by (repeat (first | with_reducible exact Below.refl _ _ | with_reducible refine Bs ?_ | with_reducible refine Ba ?_ | with_reducible refine Bd ?_ | with_reducible refine Bn ?_))) (b4.mono (by first | omega | (simp; done) | (simp; omega))))
            have s4 := B4.out.size
            clear b4
            go_wp2_with fail
            (with_reducible refine (HTN.out w4 (HST.out (k + 1) _ _ HI.out B4.out) (by omega)).mono ?_)
            rintro e w5 ⟨⟨r, rfl⟩, hI5, b5, hk5⟩
            have g0 := (cell_of_block (o := 0) hk5).trans t0
            have g1 := (cell_of_block (o := 1) hk5).trans t1
            have HI5 := Lib.hid hI5
            have B5 := Lib.hid (show Below lo w w5 from below_tr (below_tr HBR.out (B4.out.mono (by omega))) b5)
            have s5 := b5.size
            clear hI5 b5 hk5 t0 t1
            go_wp2_with fail
            go_roundw
            case rel => exact ⟨k + 1, j + 1, _, _, _, dn ++ [j], by go_num, by go_num, HQ1.out, HWN.out, by rw [List.length_append, HDN.out]; rfl, by omega, HI5.out, B5.out, by omega, g0, g1⟩
            case measure => simp [intOf] <;> omega
          | false =>
            have HWN := Lib.hid (show wayL t x = (dn ++ [j]) ++ wayT t x b' m' by rw [HWY.out, if_neg (by decide), (HQ2.out.way x _ (Nat.le_max_right _ _)).1])
            have htn := fun W => HT.out (k + 1) m' W (by rw [HWN.out, List.getElem?_append_right (by simp [HDN.out]), show k + 1 - (dn ++ [j]).length = 0 by simp [HDN.out]]; exact wayT_head _ _ _ _) (by omega)
            rw [show ((k + 1 : Nat) : Int) = (k : Int) + 1 by omega] at htn
            have HTN := Lib.hid htn
            clear htn
            go_wp2_with fail
            (with_reducible refine (HCL.out _ (HCI.out.below (by (repeat (first | with_reducible exact Below.refl _ _ | with_reducible refine Bs ?_ | with_reducible refine Ba ?_ | with_reducible refine Bd ?_ | with_reducible refine Bn ?_)))) (HXW.out.below (by (repeat (first | with_reducible exact Below.refl _ _ | with_reducible refine Bs ?_ | with_reducible refine Ba ?_ | with_reducible refine Bd ?_ | with_reducible refine Bn ?_))))).mono ?_)
            rintro e w4 ⟨rfl, b4⟩
            have z0 : w4.cell? ⟨wr.heap.size, 0, none⟩ = some (.slice ca cl ccc) := (b4.cell (by first | omega | (simp; done) | (simp; omega))).trans (by go_simp)
            have z1 : w4.cell? ⟨wr.heap.size, 1, none⟩ = some (.int .i64 xat) := (b4.cell (by first | omega | (simp; done) | (simp; omega))).trans (by go_simp)
            have z2 : w4.cell? ⟨wr.heap.size, 2, none⟩ = some (.int .i64 ((j : Int) + 1)) := (b4.cell (by first | omega | (simp; done) | (simp; omega))).trans (by go_simp)
            have z3 : w4.cell? ⟨wr.heap.size, 3, none⟩ = some (.int .i64 m') := (b4.cell (by first | omega | (simp; done) | (simp; omega))).trans (by go_simp)
            have z4 : w4.cell? ⟨wr.heap.size, 4, none⟩ = some (.int .i64 xz) := (b4.cell (by first | omega | (simp; done) | (simp; omega))).trans (by go_simp)
            have t0 := (b4.cell (p := ⟨w.heap.size, 0, none⟩) (by first | omega | (simp; done) | (simp; omega))).trans (show _ = some (.int .i64 D) by go_simp)
            have t1 := (b4.cell (p := ⟨w.heap.size, 1, none⟩) (by first | omega | (simp; done) | (simp; omega))).trans (show _ = some (.slice (some ⟨b, o, none⟩) n cc) by go_simp)
            have B4 := Lib.hid (show Below wr.heap.size wr w4 from below_tr (by (repeat (first | with_reducible exact Below.refl _ _ | with_reducible refine Bs ?_ | with_reducible refine Ba ?_ | with_reducible refine Bd ?_ | with_reducible refine Bn ?_))) (b4.mono (by first | omega | (simp; done) | (simp; omega))))
            have s4 := B4.out.size
            clear b4
            go_wp2_with fail
            (with_reducible refine (HTN.out w4 (HST.out (k + 1) _ _ HI.out B4.out) (by omega)).mono ?_)
            rintro e w5 ⟨⟨r, rfl⟩, hI5, b5, hk5⟩
            have g0 := (cell_of_block (o := 0) hk5).trans t0
            have g1 := (cell_of_block (o := 1) hk5).trans t1
            have HI5 := Lib.hid hI5
            have B5 := Lib.hid (show Below lo w w5 from below_tr (below_tr HBR.out (B4.out.mono (by omega))) b5)
            have s5 := b5.size
            clear hI5 b5 hk5 t0 t1
            go_wp2_with fail
            go_roundw
            case rel => exact ⟨k + 1, m', _, _, _, dn ++ [j], by go_num, by go_num, HQ2.out, HWN.out, by rw [List.length_append, HDN.out]; rfl, by omega, HI5.out, B5.out, by omega, g0, g1⟩
            case measure => simp [intOf] <;> omega
end Go.Proofs.Ytdbonlpkmncggaa

namespace Go.Proofs.Ytdbonlpkmncggaa
open Go.RowKit

theorem plen_any (n : NodeP) (v : Value) (d : Nat) (w : World) (h : NodeV w v n) (hd : d ≤ 1000) :
    Calls Try.prog 82 #[v, .int .i64 (d : Int)] w fun e w' => e = .returned (.int .i64 ((d : Int) * 1073741824 + normI n.size)) ∧ Below w.heap.size w w' := by
  obtain ⟨cv, rfl, a, c, rfl, _⟩ := h
  have HN := Lib.hid (fun W => norm_any n.size W)
  have hb := norm_bd n.size
  have h1 : 0 ≤ normI n.size := by unfold normI; omega
  have h2 : normI n.size ≤ 549755813888 := by unfold normI; omega
  generalize normI n.size = z at *
  generalize n.coef.length = cl at *
  generalize n.at_ = xa at *
  generalize n.left = xl at *
  generalize n.right = xr at *
  generalize n.size = xs at *
  have hd2 : (d : Int) ≤ 1000 := by omega
  clear hb
  go_enter Try.func82, Try.ntmps82
  go_wp2_with fail
  refine (HN.out _).mono ?_
  rintro e w1 ⟨rfl, dd, rfl⟩
  go_wp2_with fail
  go_ret
  exact ⟨rfl, by (repeat (first | with_reducible exact Below.refl _ _ | with_reducible refine Bs ?_ | with_reducible refine Ba ?_ | with_reducible refine Bd ?_ | with_reducible refine Bn ?_))⟩

/-- How long the path of a vector is. -/
noncomputable def lenV (t : TreeP) (x : List Int) : Int :=
  match (wayL t x).getLast? with
  | some j => (((wayL t x).length - 1 : Nat) : Int) * 1073741824 + normI ((t.nodes[j]?).elim 0 NodeP.size)
  | none => 0

theorem getLast_idx {l : List Nat} {j : Nat} (h : l.getLast? = some j) : l[l.length - 1]? = some j := by
  rw [List.getLast?_eq_getElem?] at h; exact h

theorem way_facts {t : TreeP} {x : List Int} (h : treeB t = true) : ∃ j n, (wayL t x).getLast? = some j ∧ t.nodes[j]? = some n ∧ leafB n = true ∧ 1 ≤ (wayL t x).length ∧ (wayL t x).length ≤ 7 ∧ j < t.nodes.length := by
  obtain ⟨_, _, h0, s0, q, h1, h2⟩ := treeB_true.1 h
  have h6 : h0 ≤ 6 := Nat.le_trans h2 (logI_le h1)
  obtain ⟨j, n, g1, g2, g3, g4, g5⟩ := q.wayLeaf x
  obtain ⟨e1, e2⟩ := q.way x 6 h6
  have e3 : wayL t x = wayT t x h0 0 := e1
  rw [e3]
  refine ⟨j, n, g1, g4, g5, ?_, by omega, g3⟩
  exact List.length_pos_iff.2 (wayT_ne t x h0 0)

/-- What Length's closure has written, behind k nodes. -/
def LenI (l : List Nat) (B k : Nat) (w : World) : Prop :=
  B + 2 < w.heap.size ∧ w.cell? ⟨B + 1, 0, none⟩ = some (.int .i64 ((l.getD (k - 1) 0 : Nat) : Int)) ∧ w.cell? ⟨B + 2, 0, none⟩ = some (.int .i64 ((k - 1 : Nat) : Int)) ∧ w.frozen? ⟨B + 1, 0, none⟩ = false ∧ w.frozen? ⟨B + 2, 0, none⟩ = false

theorem LenI.stable {l : List Nat} {B k : Nat} {w w' : World} (h : LenI l B k w) (b : Below w.heap.size w w') : LenI l B k w' := by
  obtain ⟨h1, h2, h3, h4, h5⟩ := h
  refine ⟨Nat.lt_of_lt_of_le h1 b.size, (b.cell (p := ⟨B + 1, 0, none⟩) (by simp; omega)).trans h2, (b.cell (p := ⟨B + 2, 0, none⟩) (by simp; omega)).trans h3, (b.frozen (p := ⟨B + 1, 0, none⟩) (by simp; omega)).trans h4, (b.frozen (p := ⟨B + 2, 0, none⟩) (by simp; omega)).trans h5⟩

theorem lentell_any (l : List Nat) (B N k j : Nat) (w : World) (h : LenI l B k w) (hj : l[k]? = some j) (hN : N ≠ B + 1) (hN2 : N ≠ B + 2) :
    Calls Try.prog 81 #[.int .i64 (j : Int), .int .i64 (k : Int), .pointer (some ⟨B + 1, 0, none⟩), .pointer (some ⟨B + 2, 0, none⟩)] w
      fun e w' => (∃ r, e = .returned r) ∧ LenI l B (k + 1) w' ∧ Below (B + 1) w w' ∧ w'.heap[N]? = w.heap[N]? := by
  obtain ⟨h1, h2, h3, h4, h5⟩ := h
  have HG := Lib.hid (show l.getD (k + 1 - 1) 0 = j by rw [Nat.add_sub_cancel, List.getD_eq_getElem?_getD, hj]; rfl)
  generalize l.getD (k - 1) 0 = q at *
  generalize k - 1 = p at *
  clear hj
  go_enter Try.func81, Try.ntmps81
  go_wp2_with fail
  go_end0
  refine ⟨⟨_, rfl⟩, ⟨by simpa using h1, ?_, by go_simp, by go_simp, by go_simp⟩, by (repeat (first | with_reducible exact Below.refl _ _ | with_reducible refine Bs ?_ | with_reducible refine Ba ?_ | with_reducible refine Bd ?_ | with_reducible refine Bn ?_)), ?_⟩
  · rw [HG.out]; go_simp
  · rw [Below.heap_setCell _ _ _ _ hN2, Below.heap_setCell _ _ _ _ hN]

set_option maxRecDepth 100000 in
set_option maxHeartbeats 2000000 in
theorem length_any (v vx : Value) (t : TreeP) (x : List Int) (w : World) (h : TreeR w v t) (hx : Ints .i64 w vx x) :
    Calls Try.prog 56 #[v, vx] w fun e w' => e = .returned (.tuple #[.int .i64 (if pathE t x = 0 then lenV t x else 0), .int .i64 (pathE t x)]) ∧ Below w.heap.size w w' := by
  have HTR := Lib.hid h
  have HX := Lib.hid hx
  have HW := Lib.hid (fun lo I W hcf h1 h2 h3 h4 h5 h6 h7 => way_any v vx t x 81 #[.pointer (some ⟨w.heap.size + 1, 0, none⟩), .pointer (some ⟨w.heap.size + 2, 0, none⟩)] lo I W hcf h1 h2 h3 h4 h5 h6 h7)
  obtain ⟨nv, rfl, ad, cc, rfl, _, _, q3, hcell⟩ := h
  obtain ⟨E, hE⟩ : ∃ E, pathE t x = E := ⟨_, rfl⟩
  rw [hE] at HW ⊢
  have HE := Lib.hid hE
  clear hcell hx hE
  obtain ⟨n, hn⟩ : ∃ n, t.nodes.length = n := ⟨_, rfl⟩
  rw [hn] at q3 HTR HW ⊢
  have HL := Lib.hid hn
  clear hn
  obtain ⟨D, hD⟩ : ∃ D, t.dim = D := ⟨_, rfl⟩
  rw [hD] at HTR HW ⊢
  clear hD
  go_enter Try.func56, Try.ntmps56
  go_wp2_with fail
  (with_reducible refine (HW.out (w.heap.size + 1) (LenI (wayL t x) w.heap.size) _ ?_ (HTR.out.below (by (repeat (first | with_reducible exact Below.refl _ _ | with_reducible refine Bs ?_ | with_reducible refine Ba ?_ | with_reducible refine Bd ?_ | with_reducible refine Bn ?_)))) (HX.out.below (by (repeat (first | with_reducible exact Below.refl _ _ | with_reducible refine Bs ?_ | with_reducible refine Ba ?_ | with_reducible refine Bd ?_ | with_reducible refine Bn ?_)))) ?_ (by simp <;> omega) (fun k W W' hI hb => hI.stable hb) ?_ ?_).mono ?_)
  · intro args W
    rfl
  · intro W hb
    have hb2 : Below w.heap.size w W := below_tr (by (repeat (first | with_reducible exact Below.refl _ _ | with_reducible refine Bs ?_ | with_reducible refine Ba ?_ | with_reducible refine Bd ?_ | with_reducible refine Bn ?_))) (hb.mono (by omega))
    exact ⟨HTR.out.below hb2, HX.out.below hb2⟩
  · have e0 : (wayL t x).getD (0 - 1) 0 = 0 := by rw [List.getD_eq_getElem?_getD, show (wayL t x)[0 - 1]? = some 0 from wayT_head t x 6 0]; rfl
    refine ⟨by simp, ?_, by go_simp, by go_simp, by go_simp⟩
    rw [e0]; go_simp
  · intro k j W hj hk hI hs
    have hs2 : w.heap.size + 3 < W.heap.size := by simpa using hs
    exact lentell_any (wayL t x) w.heap.size _ k j W hI hj (by simp <;> omega) (by simp <;> omega)
  rintro e w1 ⟨rfl, hI, b1⟩
  have B1 := Lib.hid (show Below (w.heap.size + 1) _ _ from b1)
  have c0 := (b1.cell (p := ⟨w.heap.size, 0, none⟩) (by simp)).trans (show _ = some (.int .i64 D) by go_simp)
  have c1 := (b1.cell (p := ⟨w.heap.size, 1, none⟩) (by simp)).trans (show _ = some (.slice ad n cc) by go_simp)
  have BW := Lib.hid (show Below w.heap.size w w1 from below_tr (by (repeat (first | with_reducible exact Below.refl _ _ | with_reducible refine Bs ?_ | with_reducible refine Ba ?_ | with_reducible refine Bd ?_ | with_reducible refine Bn ?_))) (b1.mono (by omega)))
  clear b1
  by_cases hz : E = 0
  · subst hz
    have htb : treeB t = true := by
      have h := HE.out
      unfold pathE at h
      split at h
      · assumption
      · omega
    obtain ⟨j, nd, g1, g2, g3, g4, g5, g6⟩ := way_facts (x := x) htb
    rw [if_pos rfl] at hI
    obtain ⟨i1, i2, i3, i4, i5⟩ := hI
    have hgd : (wayL t x).getD ((wayL t x).length - 1) 0 = j := by rw [List.getD_eq_getElem?_getD, getLast_idx g1]; rfl
    have HLV := Lib.hid (show lenV t x = (((wayL t x).length - 1 : Nat) : Int) * 1073741824 + normI nd.size by unfold lenV; rw [g1]; simp only []; rw [g2]; rfl)
    rw [hgd] at i2
    obtain ⟨K, hK⟩ : ∃ K, (wayL t x).length - 1 = K := ⟨_, rfl⟩
    rw [hK] at i3 HLV
    have hK7 : K ≤ 6 := by omega
    have hT := HTR.out.below BW.out
    obtain ⟨b, o, rfl⟩ := hT.addr g6
    obtain ⟨hb, hat⟩ := hT.node g2
    obtain ⟨ca, ccc, hci, e0, e1, e2, e3, e4⟩ := hat.val
    have HPL := Lib.hid (fun W (hW : Ints .i64 W (.slice ca nd.coef.length ccc) nd.coef) => plen_any nd (.agg #[.slice ca nd.coef.length ccc, .int .i64 nd.at_, .int .i64 nd.left, .int .i64 nd.right, .int .i64 nd.size]) K W ⟨_, rfl, hW⟩ (by omega))
    have HCI := Lib.hid hci
    have hj0 : (0 : Int) ≤ j := by omega
    have hjn : (j : Int) < n := by have := HL.out; omega
    clear htb g1 g2 g3 g4 g5 g6 hgd hK hT hat hci i4 i5 HE
    generalize nd.at_ = xat at *
    generalize nd.left = xl at *
    generalize nd.right = xr at *
    generalize nd.size = xz at *
    generalize nd.coef.length = cl at *
    have hnb := norm_bd xz
    go_wp2_with fail
    refine wp_region_tail_quiet 6 (by kernel_rfl) (by kernel_rfl) ?_; simp only [List.take_succ_cons, List.take_zero, List.drop_succ_cons, List.drop_zero]; (repeat (go_big_quiet_step (fail))); refine wpQuiet_nil ?_
    go_wp2_with (go_at_call 82; go_must (with_reducible refine (HPL.out _ (HCI.out.below (by (repeat (first | with_reducible exact Below.refl _ _ | with_reducible refine Bs ?_ | with_reducible refine Ba ?_ | with_reducible refine Bd ?_ | with_reducible refine Bn ?_))))).mono ?_))
    rintro e w2 ⟨rfl, b2⟩
    go_wp2_with fail
    exact bodyPost_ret (v := .tuple #[.int .i64 ((K : Int) * 1073741824 + normI xz), .int .i64 0]) (by simp [results, Try.results56, go_sem]) rfl ⟨by rw [HLV.out], by (repeat (first | with_reducible exact Below.refl _ _ | with_reducible refine Bs ?_ | with_reducible refine Ba ?_ | with_reducible refine Bd ?_ | with_reducible refine Bn ?_ | with_reducible refine Bt b2 ?_ | with_reducible refine Bt BW.out ?_))⟩
  · have j1 : (E != 0) = true := by simp [hz]
    have HZ := Lib.hid hz
    clear hI hz
    go_wp2_with fail
    exact bodyPost_ret (v := .tuple #[.int .i64 0, .int .i64 E]) (by simp [results, Try.results56, go_sem]) rfl ⟨rfl, by (repeat (first | with_reducible exact Below.refl _ _ | with_reducible refine Bs ?_ | with_reducible refine Ba ?_ | with_reducible refine Bd ?_ | with_reducible refine Bn ?_ | with_reducible refine Bt BW.out ?_))⟩

/-- What Trail's closure has written, behind k nodes. -/
def TrailI (l : List Nat) (B k : Nat) (w : World) : Prop :=
  ∃ v, B + 1 < w.heap.size ∧ w.cell? ⟨B + 1, 0, none⟩ = some v ∧ w.frozen? ⟨B + 1, 0, none⟩ = false ∧ w.ownsRow (B + 3) 3 1 v k ((l.take k).map fun (j : Nat) => .int .i64 (j : Int))

theorem TrailI.stable {l : List Nat} {B k : Nat} {w w' : World} (h : TrailI l B k w) (b : Below w.heap.size w w') : TrailI l B k w' := by
  obtain ⟨v, h1, h2, h3, h4⟩ := h
  exact ⟨v, Nat.lt_of_lt_of_le h1 b.size, (b.cell (p := ⟨B + 1, 0, none⟩) (by simp; omega)).trans h2, (b.frozen (p := ⟨B + 1, 0, none⟩) (by simp; omega)).trans h3, own_keep h4 fun g _ hg => b.block g hg⟩

end Go.Proofs.Ytdbonlpkmncggaa

namespace Go.Proofs.Ytdbonlpkmncggaa
open Go.RowKit

def DepOk (t : TreeP) (k : Nat) (ds : List Int) : Prop :=
  ds.length = t.nodes.length ∧ ∀ (j : Nat) (d : Int), ds[j]? = some d → (j = 0 ∨ ∃ k' nd, k' < k ∧ t.nodes[k']? = some nd ∧ leafB nd = false ∧ (nd.left = (j : Int) ∨ nd.right = (j : Int))) → d = (depOf t j : Int)

theorem DepOk.leaf {t : TreeP} {k : Nat} {ds : List Int} {n : NodeP} (h : DepOk t k ds) (hn : t.nodes[k]? = some n) (hl : leafB n = true) : DepOk t (k + 1) ds := by
  refine ⟨h.1, fun j d hd hj => h.2 j d hd ?_⟩
  rcases hj with hj | ⟨k', nd, g1, g2, g3, g4⟩
  · exact .inl hj
  · refine .inr ⟨k', nd, ?_, g2, g3, g4⟩
    rcases Nat.lt_or_ge k' k with h1 | h1
    · exact h1
    · obtain rfl : k' = k := by omega
      rw [hn] at g2
      injection g2 with g2
      subst g2
      rw [hl] at g3
      cases g3

theorem DepOk.node {t : TreeP} {k m : Nat} {ds : List Int} {n : NodeP} {v : Int} (h : DepOk t k ds) (hn : t.nodes[k]? = some n) (h1 : n.left = (k : Int) + 1) (h2 : n.right = (m : Int))
    (v1 : v = (depOf t (k + 1) : Int)) (v2 : v = (depOf t m : Int)) : DepOk t (k + 1) ((ds.set (k + 1) v).set m v) := by
  refine ⟨by simp [h.1], fun j d hd hj => ?_⟩
  by_cases e1 : j = m
  · subst e1
    rw [List.getElem?_set] at hd
    simp at hd
    rw [← hd.2, v2]
  · rw [List.getElem?_set_ne (by omega)] at hd
    by_cases e2 : j = k + 1
    · subst e2
      rw [List.getElem?_set] at hd
      simp at hd
      rw [← hd.2, v1]
    · rw [List.getElem?_set_ne (by omega)] at hd
      refine h.2 j d hd ?_
      rcases hj with hj | ⟨k', nd, g1, g2, g3, g4⟩
      · exact .inl hj
      · refine .inr ⟨k', nd, ?_, g2, g3, g4⟩
        rcases Nat.lt_or_ge k' k with h3 | h3
        · exact h3
        · obtain rfl : k' = k := by omega
          rw [hn] at g2
          injection g2 with g2
          subst g2
          omega

theorem dep_kids {t : TreeP} (h : IsTree t) {k : Nat} {n : NodeP} (hn : t.nodes[k]? = some n) (hl : leafB n = false) :
    ∃ m : Nat, n.left = (k : Int) + 1 ∧ n.right = (m : Int) ∧ k + 1 < m ∧ m < t.nodes.length ∧ depOf t (k + 1) = depOf t k + 1 ∧ depOf t m = depOf t k + 1 := by
  obtain ⟨_, _, g, s, q, h1, h2⟩ := h
  have h6 : g ≤ 6 := Nat.le_trans h2 (logI_le h1)
  have hk := (List.getElem?_eq_some_iff.1 hn).1
  obtain ⟨m, g1, g2, g3, g4, g5, g6⟩ := q.kids k n (by omega) hk hn hl
  have e1 := (q.dep 6 h6 k (by omega) hk).1
  have e2 := (q.dep 6 h6 (k + 1) (by omega) (by omega)).1
  have e3 := (q.dep 6 h6 m (by omega) g4).1
  exact ⟨m, g1, g2, g3, g4, by unfold depOf; omega, by unfold depOf; omega⟩

end Go.Proofs.Ytdbonlpkmncggaa

namespace Go.Proofs.Ytdbonlpkmncggaa
open Go.RowKit

theorem leafAt_facts {t : TreeP} (h : IsTree t) {k j : Nat} (hj : (leavesT t t.nodes.length)[k]? = some j) :
    ∃ nd, t.nodes[j]? = some nd ∧ leafB nd = true ∧ 1 ≤ nd.size ∧ nd.size ≤ 64 ∧ 0 ≤ lenOf t j ∧ lenOf t j ≤ 556198264832 ∧ sizeOf' t j = nd.size := by
  have hm := List.mem_of_getElem? hj
  unfold leavesT at hm
  rw [List.mem_filter, List.mem_range] at hm
  obtain ⟨h1, h2⟩ := hm
  obtain ⟨nd, hnd⟩ := getElem?_ex h1
  unfold isLeafAt at h2
  rw [hnd] at h2
  obtain ⟨_, _, g, s, q, g1, g2⟩ := h
  have h6 : g ≤ 6 := Nat.le_trans g2 (logI_le g1)
  obtain ⟨e', h', s', q', p1, p2, p3⟩ := q.parts j (by omega) h1
  obtain ⟨n', hn', hs'⟩ := q'.at_
  rw [hnd] at hn'
  injection hn' with hn'
  subst hn'
  have hp := q'.pos
  have hd := q.dep 6 h6 j (by omega) h1
  have hb := norm_bd nd.size
  have e1 : sizeOf' t j = nd.size := by unfold sizeOf'; rw [hnd]; rfl
  have e2 : normI nd.size = (loN (heldN nd.size) + hiN (heldN nd.size)) / 2 := rfl
  have e3 : depOf t j = depT t 6 0 j := rfl
  refine ⟨nd, hnd, h2, by omega, by omega, ?_, ?_, e1⟩ <;> unfold lenOf <;> rw [e1, e2] <;> omega

def EndsI (l : List Int) (B k : Nat) (w : World) : Prop :=
  B + 2 < w.heap.size ∧ w.cell? ⟨B + 1, 0, none⟩ = some (.int .i64 ((l.take k).foldl min 4611686018427387904)) ∧ w.cell? ⟨B + 2, 0, none⟩ = some (.int .i64 ((l.take k).foldl max 0)) ∧ w.frozen? ⟨B + 1, 0, none⟩ = false ∧ w.frozen? ⟨B + 2, 0, none⟩ = false

theorem EndsI.stable {l : List Int} {B k : Nat} {w w' : World} (h : EndsI l B k w) (b : Below (B + 3) w w') : EndsI l B k w' := by
  obtain ⟨h1, h2, h3, h4, h5⟩ := h
  exact ⟨Nat.lt_of_lt_of_le h1 b.size, (b.cell (p := ⟨B + 1, 0, none⟩) (by simp)).trans h2, (b.cell (p := ⟨B + 2, 0, none⟩) (by simp)).trans h3, (b.frozen (p := ⟨B + 1, 0, none⟩) (by simp)).trans h4, (b.frozen (p := ⟨B + 2, 0, none⟩) (by simp)).trans h5⟩

def sumI : List Int → Int
  | [] => 0
  | x :: l => x + sumI l

theorem sumI_snoc (l : List Int) (x : Int) : sumI (l ++ [x]) = sumI l + x := by
  induction l with
  | nil => simp [sumI]
  | cons y l ih => simp [sumI, ih]; omega

theorem sumI_bd {l : List Int} {b : Int} (h : ∀ x ∈ l, 0 ≤ x ∧ x ≤ b) : 0 ≤ sumI l ∧ sumI l ≤ b * (l.length : Int) := by
  induction l with
  | nil => simp [sumI]
  | cons x l ih =>
    have h1 := h x (by simp)
    have h2 := ih fun y hy => h y (by simp [hy])
    simp only [sumI, List.length_cons]
    rw [Int.natCast_add, Int.mul_add]
    omega

def WtI (l : List Int) (B k : Nat) (w : World) : Prop :=
  B + 1 < w.heap.size ∧ w.cell? ⟨B + 1, 0, none⟩ = some (.int .i64 (sumI (l.take k))) ∧ w.frozen? ⟨B + 1, 0, none⟩ = false

theorem WtI.stable {l : List Int} {B k : Nat} {w w' : World} (h : WtI l B k w) (b : Below (B + 2) w w') : WtI l B k w' := by
  obtain ⟨h1, h2, h4⟩ := h
  exact ⟨Nat.lt_of_lt_of_le h1 b.size, (b.cell (p := ⟨B + 1, 0, none⟩) (by simp)).trans h2, (b.frozen (p := ⟨B + 1, 0, none⟩) (by simp)).trans h4⟩

end Go.Proofs.Ytdbonlpkmncggaa

namespace Go.Proofs.Ytdbonlpkmncggaa
open Go.RowKit

def sameN (a b : NodeP) : Bool := decide (a.coef = b.coef) && decide (a.at_ = b.at_) && decide (a.left = b.left) && decide (a.right = b.right) && decide (a.size = b.size)

theorem sameN_eq {a b : NodeP} : sameN a b = true ↔ a = b := by
  obtain ⟨a1, a2, a3, a4, a5⟩ := a
  obtain ⟨b1, b2, b3, b4, b5⟩ := b
  unfold sameN
  simp [and_assoc]

instance (a b : NodeP) : Decidable (a = b) := decidable_of_iff (sameN a b = true) sameN_eq

def sameT (a b : TreeP) : Bool := decide (a.dim = b.dim) && decide (a.nodes = b.nodes)

set_option maxRecDepth 100000 in
theorem r09same_any (v v2 : Value) (c c2 : List Int) (a a2 : Int) (w : World) (h : Ints .i64 w v c) (h2 : Ints .i64 w v2 c2) :
    Calls Try.prog 53 #[.agg #[v, .int .i64 a], .agg #[v2, .int .i64 a2]] w fun e w' => e = .returned (.bool (decide (a = a2) && decide (c = c2))) ∧ Below w.heap.size w w' := by
  have HS := Lib.hid (fun W (hW : Below w.heap.size w W) => same_any v v2 c c2 W (h.below hW) (h2.below hW))
  obtain ⟨x, k, rfl⟩ := h.shape
  obtain ⟨x2, k2, rfl⟩ := h2.shape
  obtain ⟨B, hB⟩ : ∃ B, decide (c = c2) = B := ⟨_, rfl⟩
  rw [hB] at HS ⊢
  clear h h2 hB
  by_cases ha : a = a2
  · subst ha
    have j : (a == a) = true := by simp
    rw [decide_eq_true rfl, Bool.true_and]
    go_enter Try.func53, Try.ntmps53
    go_wp2_with fail
    (with_reducible refine (HS.out _ (by (repeat (first | with_reducible exact Below.refl _ _ | with_reducible refine Bs ?_ | with_reducible refine Ba ?_ | with_reducible refine Bd ?_ | with_reducible refine Bn ?_)))).mono ?_)
    rintro e w1 ⟨rfl, d, rfl⟩
    go_wp2_with fail
    go_ret
    exact ⟨rfl, by (repeat (first | with_reducible exact Below.refl _ _ | with_reducible refine Bs ?_ | with_reducible refine Ba ?_ | with_reducible refine Bd ?_ | with_reducible refine Bn ?_))⟩
  · have j : (a == a2) = false := by simp [ha]
    rw [decide_eq_false ha, Bool.false_and]
    clear ha
    go_enter Try.func53, Try.ntmps53
    go_wp2_with fail
    go_ret
    exact ⟨rfl, by (repeat (first | with_reducible exact Below.refl _ _ | with_reducible refine Bs ?_ | with_reducible refine Ba ?_ | with_reducible refine Bd ?_ | with_reducible refine Bn ?_))⟩
end Go.Proofs.Ytdbonlpkmncggaa

namespace Go.Proofs.Ytdbonlpkmncggaa
open Go.RowKit

def lastW (l : List Nat) : Nat := l.getLast?.getD 0

theorem lastW_cons (i : Nat) {l : List Nat} (h : l ≠ []) : lastW (i :: l) = lastW l := by
  cases l with
  | nil => exact absurd rfl h
  | cons j l => rfl

theorem tup2 {k k' : IntKind} {a b c d : Int} (h : a = c) (h' : b = d) : Ending.returned (.tuple #[.int k a, .int k' b]) = .returned (.tuple #[.int k c, .int k' d]) := by rw [h, h']

set_option maxRecDepth 100000 in
set_option maxHeartbeats 4000000 in
theorem rdown_any (t : TreeP) (x : List Int) (vx : Value) (hxv : vecB x t.dim = true) {i e h : Nat} {s : Int} (q : Sub t i e h s) : ∀ (v : Value) (w : World), TreeR w v t → Ints .i64 w vx x →
    Calls Try.prog 88 #[v, .int .i64 i, vx] w fun e w' => e = .returned (.tuple #[.int .i64 (lastW (wayT t x h i) : Nat), .int .i64 (((wayT t x h i).length - 1 : Nat) : Int)]) ∧ Below w.heap.size w w' := by
  induction q with
  | @leaf i nd hnd hlf =>
    intro v w hT hX
    rw [wayT_leaf hnd (leafB_is hlf).1]
    have HTR := Lib.hid hT
    obtain ⟨nv, rfl, ad, cc, rfl, _, _, q3, _⟩ := hT
    obtain ⟨b, o, rfl⟩ := HTR.out.addr (List.getElem?_eq_some_iff.1 hnd).1
    obtain ⟨hb, hat⟩ := HTR.out.node hnd
    obtain ⟨ca, ccc, hci, e0, e1, e2, e3, e4⟩ := hat.val
    have hin : (i : Int) < t.nodes.length := by have := (List.getElem?_eq_some_iff.1 hnd).1; omega
    have hi0 : (0 : Int) ≤ i := by omega
    rw [(leafB_is hlf).1] at e2
    clear hat hci hnd hlf HTR hX
    generalize nd.at_ = xat at *
    generalize nd.right = xr at *
    generalize nd.size = xz at *
    generalize nd.coef.length = cl at *
    generalize t.nodes.length = n at *
    clear hxv
    generalize t.dim = D at *
    go_enter Try.func88, Try.ntmps88
    go_wp2_with fail
    exact bodyPost_ret (v := .tuple #[.int .i64 i, .int .i64 0]) (by simp [results, Try.results88, go_sem]) rfl ⟨rfl, by (repeat (first | with_reducible exact Below.refl _ _ | with_reducible refine Bs ?_ | with_reducible refine Ba ?_ | with_reducible refine Bd ?_ | with_reducible refine Bn ?_))⟩
  | @node i m' e a' b' x' y' nd hnd k1 k2 q1 k4 q2 k6 ih1 ih2 =>
    intro v w hT hX0
    have HTR := Lib.hid hT
    have HX := Lib.hid hX0
    obtain ⟨nv, rfl, ad, cc, rfl, _, _, q3, _⟩ := hT
    obtain ⟨ax, cx, rfl, _⟩ := hX0
    obtain ⟨b, o, rfl⟩ := HTR.out.addr (List.getElem?_eq_some_iff.1 hnd).1
    obtain ⟨hb, hat⟩ := HTR.out.node hnd
    obtain ⟨ca, ccc, hci, e0, e1, e2, e3, e4⟩ := hat.val
    have HCI := Lib.hid hci
    have hin : (i : Int) < t.nodes.length := by have := (List.getElem?_eq_some_iff.1 hnd).1; omega
    have hi0 : (0 : Int) ≤ i := by omega
    have hi1 : (i : Int) ≤ 140737488351232 := by omega
    have hl0 : ¬ nd.left = 0 := by omega
    have hmt : nd.right.toNat = m' := by omega
    have hcl := fun W (hW : Ints .i64 W (.slice ca nd.coef.length ccc) nd.coef) (hX : Ints .i64 W (.slice ax x.length cx) x) => rcleft_any _ _ nd.coef x nd.at_ W hW hX
    rw [leftR_ok k2 hxv] at hcl
    have hw0 := wayT_node (x := x) hnd hl0 (max a' b')
    rw [hmt] at hw0
    unfold leftB at hw0
    have hI1 := ih1 (.agg #[.int .i64 t.dim, .slice (some ⟨b, o, none⟩) t.nodes.length cc])
    have hI2 := ih2 (.agg #[.int .i64 t.dim, .slice (some ⟨b, o, none⟩) t.nodes.length cc])
    rw [show ((i + 1 : Nat) : Int) = (i : Int) + 1 from rfl] at hI1
    have hq1 := (q1.way x (max a' b') (Nat.le_max_left _ _)).1
    have hq2 := (q2.way x (max a' b') (Nat.le_max_right _ _)).1
    have hn1 := wayT_ne t x a' (i + 1)
    have hn2 := wayT_ne t x b' m'
    have hb1 : (((wayT t x a' (i + 1)).length - 1 : Nat) : Int) ≤ 140737488351232 := by have := (q1.way x a' (Nat.le_refl _)).2; have := q1.high; have := q1.lt; omega
    have hb2 : (((wayT t x b' m').length - 1 : Nat) : Int) ≤ 140737488351232 := by have := (q2.way x b' (Nat.le_refl _)).2; have := q2.high; have := q2.lt; omega
    obtain ⟨LB, hlb⟩ : ∃ LB, decide (dotI nd.coef x < nd.at_) = LB := ⟨_, rfl⟩
    rw [hlb] at hcl hw0
    have HCL := Lib.hid hcl
    rw [k1] at e2
    rw [k4] at e3
    rw [Nat.add_comm 1, hw0]
    have J1 := Lib.hid (show (((i : Int) + 1) == 0) = false by simp; omega)
    clear hat hci hnd hl0 hmt hcl hw0 k1 k2 k4 k6 q1 q2 ih1 ih2 hlb hxv
    cases LB with
    | true =>
      rw [if_pos rfl, hq1]
      have HI1 := Lib.hid hI1
      have HJ := Lib.hid (show Ending.returned (.tuple #[.int .i64 (lastW (i :: wayT t x a' (i + 1)) : Nat), .int .i64 (((i :: wayT t x a' (i + 1)).length - 1 : Nat) : Int)]) = Ending.returned (.tuple #[.int .i64 (lastW (wayT t x a' (i + 1)) : Nat), .int .i64 ((((wayT t x a' (i + 1)).length - 1 : Nat) : Int) + 1)]) from
        tup2 (by rw [lastW_cons i hn1]) (by have := List.length_pos_iff.2 hn1; simp only [List.length_cons]; omega))
      generalize hJJ : lastW (wayT t x a' (i + 1)) = JJ at *
      generalize hKK : (wayT t x a' (i + 1)).length - 1 = KK at *
      clear hb2 hI1 hI2 hq1 hq2 hn1 hn2 hJJ hKK
      generalize nd.at_ = xat at *
      generalize nd.size = xz at *
      generalize nd.coef.length = cl at *
      generalize t.nodes.length = n at *
      generalize t.dim = D at *
      generalize x.length = xn at *
      have j1 := J1.out
      go_enter Try.func88, Try.ntmps88
      go_wp2_with fail
      (with_reducible refine (HCL.out _ (HCI.out.below (by (repeat (first | with_reducible exact Below.refl _ _ | with_reducible refine Bs ?_ | with_reducible refine Ba ?_ | with_reducible refine Bd ?_ | with_reducible refine Bn ?_)))) (HX.out.below (by (repeat (first | with_reducible exact Below.refl _ _ | with_reducible refine Bs ?_ | with_reducible refine Ba ?_ | with_reducible refine Bd ?_ | with_reducible refine Bn ?_))))).mono ?_); rintro e w1 ⟨rfl, b1⟩; have s1 : w.heap.size + 2 ≤ w1.heap.size := sz b1; have B1 := Lib.hid (Bc (B := w.heap.size) (a := w) (by (repeat (first | with_reducible exact Below.refl _ _ | with_reducible refine Bs ?_ | with_reducible refine Ba ?_ | with_reducible refine Bd ?_ | with_reducible refine Bn ?_))) b1); obtain ⟨c1_0, c1_1⟩ := k2 (w.heap.size) (.int .i64 D) (.slice (some ⟨b, o, none⟩) n cc) b1 (by and_intros <;> go_simp); have c1_2 : w1.cell? ⟨w.heap.size + 1, 1, none⟩ = some (.int .i64 xat) := kc b1 (by go_simp) (by first | omega | (simp; done) | (simp; omega)); have c1_3 : w1.cell? ⟨w.heap.size + 1, 2, none⟩ = some (.int .i64 ((i : Int) + 1)) := kc b1 (by go_simp) (by first | omega | (simp; done) | (simp; omega)); have c1_4 : w1.cell? ⟨w.heap.size + 1, 3, none⟩ = some (.int .i64 m') := kc b1 (by go_simp) (by first | omega | (simp; done) | (simp; omega)); obtain ⟨l1_0, n1_0, m1_0⟩ := lnm (show w.heap.size < w1.heap.size by omega); obtain ⟨l1_1, n1_1, m1_1⟩ := lnm (show w.heap.size + 1 < w1.heap.size by omega); clear b1
      go_wp2_with fail
      (with_reducible refine (HI1.out _ (HTR.out.below (by (repeat (first | with_reducible exact Below.refl _ _ | with_reducible refine Bs ?_ | with_reducible refine Ba ?_ | with_reducible refine Bd ?_ | with_reducible refine Bn ?_ | with_reducible refine Bt B1.out ?_)))) (HX.out.below (by (repeat (first | with_reducible exact Below.refl _ _ | with_reducible refine Bs ?_ | with_reducible refine Ba ?_ | with_reducible refine Bd ?_ | with_reducible refine Bn ?_ | with_reducible refine Bt B1.out ?_))))).mono ?_); rintro e w2 ⟨rfl, b2⟩; have s2 : w1.heap.size ≤ w2.heap.size := sz b2; have B2 := Lib.hid (Bc (B := w.heap.size) (a := w) (by (repeat (first | with_reducible exact Below.refl _ _ | with_reducible refine Bs ?_ | with_reducible refine Ba ?_ | with_reducible refine Bd ?_ | with_reducible refine Bn ?_ | with_reducible refine Bt B1.out ?_))) b2); have c2_0 : w2.cell? ⟨w.heap.size, 0, none⟩ = some (.int .i64 D) := kc b2 (by go_simp) (by first | omega | (simp; done) | (simp; omega)); obtain ⟨l2_0, n2_0, m2_0⟩ := lnm (show w.heap.size < w2.heap.size by omega); clear b2
      go_wp2_with fail
      exact bodyPost_ret (v := .tuple #[.int .i64 (JJ : Nat), .int .i64 ((KK : Nat) + 1)]) (by simp [results, Try.results88, go_sem]) rfl ⟨HJ.out.symm, by (repeat (first | with_reducible exact Below.refl _ _ | with_reducible refine Bs ?_ | with_reducible refine Ba ?_ | with_reducible refine Bd ?_ | with_reducible refine Bn ?_ | with_reducible refine Bt B2.out ?_))⟩
    | false =>
      rw [if_neg (by decide), hq2]
      have HI1 := Lib.hid hI2
      have HJ := Lib.hid (show Ending.returned (.tuple #[.int .i64 (lastW (i :: wayT t x b' m') : Nat), .int .i64 (((i :: wayT t x b' m').length - 1 : Nat) : Int)]) = Ending.returned (.tuple #[.int .i64 (lastW (wayT t x b' m') : Nat), .int .i64 ((((wayT t x b' m').length - 1 : Nat) : Int) + 1)]) from
        tup2 (by rw [lastW_cons i hn2]) (by have := List.length_pos_iff.2 hn2; simp only [List.length_cons]; omega))
      generalize hJJ : lastW (wayT t x b' m') = JJ at *
      generalize hKK : (wayT t x b' m').length - 1 = KK at *
      clear hb1 hI1 hI2 hq1 hq2 hn1 hn2 hJJ hKK
      generalize nd.at_ = xat at *
      generalize nd.size = xz at *
      generalize nd.coef.length = cl at *
      generalize t.nodes.length = n at *
      generalize t.dim = D at *
      generalize x.length = xn at *
      have j1 := J1.out
      go_enter Try.func88, Try.ntmps88
      go_wp2_with fail
      (with_reducible refine (HCL.out _ (HCI.out.below (by (repeat (first | with_reducible exact Below.refl _ _ | with_reducible refine Bs ?_ | with_reducible refine Ba ?_ | with_reducible refine Bd ?_ | with_reducible refine Bn ?_)))) (HX.out.below (by (repeat (first | with_reducible exact Below.refl _ _ | with_reducible refine Bs ?_ | with_reducible refine Ba ?_ | with_reducible refine Bd ?_ | with_reducible refine Bn ?_))))).mono ?_); rintro e w1 ⟨rfl, b1⟩; have s1 : w.heap.size + 2 ≤ w1.heap.size := sz b1; have B1 := Lib.hid (Bc (B := w.heap.size) (a := w) (by (repeat (first | with_reducible exact Below.refl _ _ | with_reducible refine Bs ?_ | with_reducible refine Ba ?_ | with_reducible refine Bd ?_ | with_reducible refine Bn ?_))) b1); obtain ⟨c1_0, c1_1⟩ := k2 (w.heap.size) (.int .i64 D) (.slice (some ⟨b, o, none⟩) n cc) b1 (by and_intros <;> go_simp); have c1_2 : w1.cell? ⟨w.heap.size + 1, 1, none⟩ = some (.int .i64 xat) := kc b1 (by go_simp) (by first | omega | (simp; done) | (simp; omega)); have c1_3 : w1.cell? ⟨w.heap.size + 1, 2, none⟩ = some (.int .i64 ((i : Int) + 1)) := kc b1 (by go_simp) (by first | omega | (simp; done) | (simp; omega)); have c1_4 : w1.cell? ⟨w.heap.size + 1, 3, none⟩ = some (.int .i64 m') := kc b1 (by go_simp) (by first | omega | (simp; done) | (simp; omega)); obtain ⟨l1_0, n1_0, m1_0⟩ := lnm (show w.heap.size < w1.heap.size by omega); obtain ⟨l1_1, n1_1, m1_1⟩ := lnm (show w.heap.size + 1 < w1.heap.size by omega); clear b1
      go_wp2_with fail
      (with_reducible refine (HI1.out _ (HTR.out.below (by (repeat (first | with_reducible exact Below.refl _ _ | with_reducible refine Bs ?_ | with_reducible refine Ba ?_ | with_reducible refine Bd ?_ | with_reducible refine Bn ?_ | with_reducible refine Bt B1.out ?_)))) (HX.out.below (by (repeat (first | with_reducible exact Below.refl _ _ | with_reducible refine Bs ?_ | with_reducible refine Ba ?_ | with_reducible refine Bd ?_ | with_reducible refine Bn ?_ | with_reducible refine Bt B1.out ?_))))).mono ?_); rintro e w2 ⟨rfl, b2⟩; have s2 : w1.heap.size ≤ w2.heap.size := sz b2; have B2 := Lib.hid (Bc (B := w.heap.size) (a := w) (by (repeat (first | with_reducible exact Below.refl _ _ | with_reducible refine Bs ?_ | with_reducible refine Ba ?_ | with_reducible refine Bd ?_ | with_reducible refine Bn ?_ | with_reducible refine Bt B1.out ?_))) b2); have c2_0 : w2.cell? ⟨w.heap.size, 0, none⟩ = some (.int .i64 D) := kc b2 (by go_simp) (by first | omega | (simp; done) | (simp; omega)); obtain ⟨l2_0, n2_0, m2_0⟩ := lnm (show w.heap.size < w2.heap.size by omega); clear b2
      go_wp2_with fail
      exact bodyPost_ret (v := .tuple #[.int .i64 (JJ : Nat), .int .i64 ((KK : Nat) + 1)]) (by simp [results, Try.results88, go_sem]) rfl ⟨HJ.out.symm, by (repeat (first | with_reducible exact Below.refl _ _ | with_reducible refine Bs ?_ | with_reducible refine Ba ?_ | with_reducible refine Bd ?_ | with_reducible refine Bn ?_ | with_reducible refine Bt B2.out ?_))⟩


theorem lastW_way {t : TreeP} {x : List Int} (h : treeB t = true) : ∃ j n, (wayL t x).getLast? = some j ∧ lastW (wayL t x) = j ∧ t.nodes[j]? = some n ∧ lenV t x = (((wayL t x).length - 1 : Nat) : Int) * 1073741824 + normI n.size ∧ 1 ≤ (wayL t x).length ∧ (wayL t x).length ≤ 7 ∧ j < t.nodes.length := by
  obtain ⟨j, nd, g1, g2, g3, g4, g5, g6⟩ := way_facts (x := x) h
  refine ⟨j, nd, g1, ?_, g2, ?_, g4, g5, g6⟩
  · unfold lastW; rw [g1]; rfl
  · unfold lenV; rw [g1]; simp only []; rw [g2]; rfl

set_option maxRecDepth 100000 in
set_option maxHeartbeats 2000000 in
theorem rleaf_any (v vx : Value) (t : TreeP) (x : List Int) (w : World) (h : TreeR w v t) (hx : Ints .i64 w vx x) :
    Calls Try.prog 62 #[v, vx] w fun e w' => e = .returned (.tuple #[.int .i64 (if pathE t x = 0 then (lastW (wayL t x) : Int) else 0), .int .i64 (if pathE t x = 0 then (((wayL t x).length - 1 : Nat) : Int) else 0), .int .i64 (pathE t x)]) ∧ Below w.heap.size w w' := by
  have HTR := Lib.hid h
  have HX := Lib.hid hx
  obtain ⟨nv, rfl, ad, cc, rfl, _, _, q3, _⟩ := h
  unfold pathE
  cases hB : treeB t with
  | false =>
    have HC1 := Lib.hid (fun W (hW : TreeR W (.agg #[.int .i64 t.dim, .slice ad t.nodes.length cc]) t) => hB ▸ ristree_any _ t W hW)
    clear hB hx
    simp only [Bool.false_eq_true, if_false, show ¬ (100 : Int) = 0 by decide]
    generalize t.nodes.length = n at *
    generalize t.dim = D at *
    go_enter Try.func62, Try.ntmps62
    go_wp2_with fail
    (with_reducible refine (HC1.out _ (HTR.out.below (by (repeat (first | with_reducible exact Below.refl _ _ | with_reducible refine Bs ?_ | with_reducible refine Ba ?_ | with_reducible refine Bd ?_ | with_reducible refine Bn ?_))))).mono ?_); rintro e w1 ⟨rfl, b1⟩; have s1 : w.heap.size + 1 ≤ w1.heap.size := sz b1; have B1 := Lib.hid (Bc (B := w.heap.size) (a := w) (by (repeat (first | with_reducible exact Below.refl _ _ | with_reducible refine Bs ?_ | with_reducible refine Ba ?_ | with_reducible refine Bd ?_ | with_reducible refine Bn ?_))) b1); obtain ⟨c1_0, c1_1⟩ := k2 (w.heap.size) (.int .i64 D) (.slice ad n cc) b1 (by and_intros <;> go_simp); obtain ⟨l1_0, n1_0, m1_0⟩ := lnm (show w.heap.size < w1.heap.size by omega); clear b1
    go_wp2_with fail
    exact bodyPost_ret (v := .tuple #[.int .i64 0, .int .i64 0, .int .i64 100]) (by simp [results, Try.results62, go_sem]) rfl ⟨rfl, by (repeat (first | with_reducible exact Below.refl _ _ | with_reducible refine Bs ?_ | with_reducible refine Ba ?_ | with_reducible refine Bd ?_ | with_reducible refine Bn ?_ | with_reducible refine Bt B1.out ?_))⟩
  | true =>
    have HC1 := Lib.hid (fun W (hW : TreeR W (.agg #[.int .i64 t.dim, .slice ad t.nodes.length cc]) t) => hB ▸ ristree_any _ t W hW)
    cases hV : vecB x t.dim with
    | false =>
      have HC2 := Lib.hid (fun W (hW : Ints .i64 W vx x) => hV ▸ risv_any vx x t.dim W hW)
      clear hB hV hx
      simp only [if_true, Bool.false_eq_true, if_false, show ¬ (80 : Int) = 0 by decide]
      generalize t.nodes.length = n at *
      generalize t.dim = D at *
      go_enter Try.func62, Try.ntmps62
      go_wp2_with fail
      (with_reducible refine (HC1.out _ (HTR.out.below (by (repeat (first | with_reducible exact Below.refl _ _ | with_reducible refine Bs ?_ | with_reducible refine Ba ?_ | with_reducible refine Bd ?_ | with_reducible refine Bn ?_))))).mono ?_); rintro e w1 ⟨rfl, b1⟩; have s1 : w.heap.size + 1 ≤ w1.heap.size := sz b1; have B1 := Lib.hid (Bc (B := w.heap.size) (a := w) (by (repeat (first | with_reducible exact Below.refl _ _ | with_reducible refine Bs ?_ | with_reducible refine Ba ?_ | with_reducible refine Bd ?_ | with_reducible refine Bn ?_))) b1); obtain ⟨c1_0, c1_1⟩ := k2 (w.heap.size) (.int .i64 D) (.slice ad n cc) b1 (by and_intros <;> go_simp); obtain ⟨l1_0, n1_0, m1_0⟩ := lnm (show w.heap.size < w1.heap.size by omega); clear b1
      go_wp2_with fail
      refine (HC2.out _ (HX.out.below (by (repeat (first | with_reducible exact Below.refl _ _ | with_reducible refine Bs ?_ | with_reducible refine Ba ?_ | with_reducible refine Bd ?_ | with_reducible refine Bn ?_ | with_reducible refine Bt B1.out ?_))))).mono ?_
      rintro e w2 ⟨rfl, rfl⟩
      go_wp2_with fail
      exact bodyPost_ret (v := .tuple #[.int .i64 0, .int .i64 0, .int .i64 80]) (by simp [results, Try.results62, go_sem]) rfl ⟨rfl, by (repeat (first | with_reducible exact Below.refl _ _ | with_reducible refine Bs ?_ | with_reducible refine Ba ?_ | with_reducible refine Bd ?_ | with_reducible refine Bn ?_ | with_reducible refine Bt B1.out ?_))⟩
    | true =>
      have HC2 := Lib.hid (fun W (hW : Ints .i64 W vx x) => hV ▸ risv_any vx x t.dim W hW)
      obtain ⟨_, _, h0, s0, q, hs64, hlog⟩ := treeB_true.1 hB
      have h6 : h0 ≤ 6 := Nat.le_trans hlog (logI_le hs64)
      have ew : wayL t x = wayT t x h0 0 := (q.way x 6 h6).1
      have hd := fun (W : World) (hW : TreeR W (.agg #[.int .i64 t.dim, .slice ad t.nodes.length cc]) t) (hX : Ints .i64 W vx x) => rdown_any t x vx hV q _ W hW hX
      rw [← ew, Int.natCast_zero] at hd
      have HD := Lib.hid hd
      clear hB hV hx q hs64 hlog ew hd
      simp only [if_true]
      generalize t.nodes.length = n at *
      generalize t.dim = D at *
      generalize ((lastW (wayL t x) : Nat) : Int) = JJ at *
      generalize (((wayL t x).length - 1 : Nat) : Int) = KK at *
      go_enter Try.func62, Try.ntmps62
      go_wp2_with fail
      (with_reducible refine (HC1.out _ (HTR.out.below (by (repeat (first | with_reducible exact Below.refl _ _ | with_reducible refine Bs ?_ | with_reducible refine Ba ?_ | with_reducible refine Bd ?_ | with_reducible refine Bn ?_))))).mono ?_); rintro e w1 ⟨rfl, b1⟩; have s1 : w.heap.size + 1 ≤ w1.heap.size := sz b1; have B1 := Lib.hid (Bc (B := w.heap.size) (a := w) (by (repeat (first | with_reducible exact Below.refl _ _ | with_reducible refine Bs ?_ | with_reducible refine Ba ?_ | with_reducible refine Bd ?_ | with_reducible refine Bn ?_))) b1); obtain ⟨c1_0, c1_1⟩ := k2 (w.heap.size) (.int .i64 D) (.slice ad n cc) b1 (by and_intros <;> go_simp); obtain ⟨l1_0, n1_0, m1_0⟩ := lnm (show w.heap.size < w1.heap.size by omega); clear b1
      go_wp2_with fail
      refine (HC2.out _ (HX.out.below (by (repeat (first | with_reducible exact Below.refl _ _ | with_reducible refine Bs ?_ | with_reducible refine Ba ?_ | with_reducible refine Bd ?_ | with_reducible refine Bn ?_ | with_reducible refine Bt B1.out ?_))))).mono ?_
      rintro e w2 ⟨rfl, rfl⟩
      go_wp2_with fail
      (with_reducible refine (HD.out _ (HTR.out.below (by (repeat (first | with_reducible exact Below.refl _ _ | with_reducible refine Bs ?_ | with_reducible refine Ba ?_ | with_reducible refine Bd ?_ | with_reducible refine Bn ?_ | with_reducible refine Bt B1.out ?_)))) (HX.out.below (by (repeat (first | with_reducible exact Below.refl _ _ | with_reducible refine Bs ?_ | with_reducible refine Ba ?_ | with_reducible refine Bd ?_ | with_reducible refine Bn ?_ | with_reducible refine Bt B1.out ?_))))).mono ?_); rintro e w2 ⟨rfl, b2⟩; have s2 : w1.heap.size ≤ w2.heap.size := sz b2; have B2 := Lib.hid (Bc (B := w.heap.size) (a := w) (by (repeat (first | with_reducible exact Below.refl _ _ | with_reducible refine Bs ?_ | with_reducible refine Ba ?_ | with_reducible refine Bd ?_ | with_reducible refine Bn ?_ | with_reducible refine Bt B1.out ?_))) b2); have c2_0 : w2.cell? ⟨w.heap.size, 0, none⟩ = some (.int .i64 D) := kc b2 (by go_simp) (by first | omega | (simp; done) | (simp; omega)); obtain ⟨l2_0, n2_0, m2_0⟩ := lnm (show w.heap.size < w2.heap.size by omega); clear b2
      go_wp2_with fail
      exact bodyPost_ret (v := .tuple #[.int .i64 JJ, .int .i64 KK, .int .i64 0]) (by simp [results, Try.results62, go_sem]) rfl ⟨rfl, by (repeat (first | with_reducible exact Below.refl _ _ | with_reducible refine Bs ?_ | with_reducible refine Ba ?_ | with_reducible refine Bd ?_ | with_reducible refine Bn ?_ | with_reducible refine Bt B2.out ?_))⟩
end Go.Proofs.Ytdbonlpkmncggaa

namespace Go.Proofs.Ytdbonlpkmncggaa
open Go.RowKit

set_option maxRecDepth 100000 in
set_option maxHeartbeats 2000000 in
theorem rlength_any (v vx : Value) (t : TreeP) (x : List Int) (w : World) (h : TreeR w v t) (hx : Ints .i64 w vx x) :
    Calls Try.prog 85 #[v, vx] w fun e w' => e = .returned (.tuple #[.int .i64 (if pathE t x = 0 then lenV t x else 0), .int .i64 (pathE t x)]) ∧ Below w.heap.size w w' := by
  have HTR := Lib.hid h
  have HX := Lib.hid hx
  have HW := Lib.hid (fun W (hW : TreeR W v t) (hX : Ints .i64 W vx x) => rleaf_any v vx t x W hW hX)
  have HF := Lib.hid (fun (h : treeB t = true) => lastW_way (x := x) h)
  obtain ⟨nv, rfl, ad, cc, rfl, _, _, q3, hcell⟩ := h
  by_cases hz : pathE t x = 0
  · rw [hz] at HW ⊢
    have htb : treeB t = true := by
      unfold pathE at hz
      split at hz
      · assumption
      · omega
    obtain ⟨j, nd, g1, g2, g3, g4, g5, g6, g7⟩ := HF.out htb
    simp only [if_true] at HW ⊢
    rw [g2] at HW
    rw [g4]
    obtain ⟨K, hK⟩ : ∃ K, (wayL t x).length - 1 = K := ⟨_, rfl⟩
    rw [hK] at HW ⊢
    have hK7 : (K : Int) ≤ 6 := by omega
    obtain ⟨b, o, rfl⟩ := HTR.out.addr (i := j) g7
    obtain ⟨hb, hat⟩ := HTR.out.node g3
    obtain ⟨_, _, _, _, _, _, _, e4⟩ := hat.val
    have HN := Lib.hid (fun W => rnorm_any nd.size W)
    have hnb := norm_bd nd.size
    have e2 : normI nd.size = (loN (heldN nd.size) + hiN (heldN nd.size)) / 2 := rfl
    have hn1 : 0 ≤ normI nd.size := by omega
    have hn2 : normI nd.size ≤ 549755813888 := by omega
    have hj0 : (0 : Int) ≤ j := by omega
    have hjn : (j : Int) < t.nodes.length := by omega
    generalize normI nd.size = nz at *
    generalize nd.size = xz at *
    clear hz htb g1 g2 g3 g4 g5 g6 g7 hK hat hnb e2 hcell hx HF
    generalize t.nodes.length = n at *
    generalize t.dim = D at *
    go_enter Try.func85, Try.ntmps85
    go_wp2_with fail
    (with_reducible refine (HW.out _ (HTR.out.below (by (repeat (first | with_reducible exact Below.refl _ _ | with_reducible refine Bs ?_ | with_reducible refine Ba ?_ | with_reducible refine Bd ?_ | with_reducible refine Bn ?_)))) (HX.out.below (by (repeat (first | with_reducible exact Below.refl _ _ | with_reducible refine Bs ?_ | with_reducible refine Ba ?_ | with_reducible refine Bd ?_ | with_reducible refine Bn ?_))))).mono ?_); rintro e w1 ⟨rfl, b1⟩; have s1 : w.heap.size + 1 ≤ w1.heap.size := sz b1; have B1 := Lib.hid (Bc (B := w.heap.size) (a := w) (by (repeat (first | with_reducible exact Below.refl _ _ | with_reducible refine Bs ?_ | with_reducible refine Ba ?_ | with_reducible refine Bd ?_ | with_reducible refine Bn ?_))) b1); obtain ⟨c1_0, c1_1⟩ := k2 (w.heap.size) (.int .i64 D) (.slice (some ⟨b, o, none⟩) n cc) b1 (by and_intros <;> go_simp); obtain ⟨l1_0, n1_0, m1_0⟩ := lnm (show w.heap.size < w1.heap.size by omega); clear b1
    have k4 := (B1.out.cell (p := ⟨b, o + j * 5 + 4, none⟩) hb).trans e4
    go_wp2_with fail
    refine (HN.out _).mono ?_
    rintro e w2 ⟨rfl, dd, rfl⟩
    go_wp2_with fail
    exact bodyPost_ret (v := .tuple #[.int .i64 ((K : Int) * 1073741824 + nz), .int .i64 0]) (by simp [results, Try.results85, go_sem]) rfl ⟨rfl, by (repeat (first | with_reducible exact Below.refl _ _ | with_reducible refine Bs ?_ | with_reducible refine Ba ?_ | with_reducible refine Bd ?_ | with_reducible refine Bn ?_ | with_reducible refine Bt B1.out ?_))⟩
  · simp only [if_neg hz] at HW ⊢
    obtain ⟨E, hE⟩ : ∃ E, pathE t x = E := ⟨_, rfl⟩
    rw [hE] at hz HW ⊢
    have j1 : (E != 0) = true := by simp [hz]
    clear hcell hx hE hz HF
    generalize t.nodes.length = n at *
    generalize t.dim = D at *
    go_enter Try.func85, Try.ntmps85
    go_wp2_with fail
    (with_reducible refine (HW.out _ (HTR.out.below (by (repeat (first | with_reducible exact Below.refl _ _ | with_reducible refine Bs ?_ | with_reducible refine Ba ?_ | with_reducible refine Bd ?_ | with_reducible refine Bn ?_)))) (HX.out.below (by (repeat (first | with_reducible exact Below.refl _ _ | with_reducible refine Bs ?_ | with_reducible refine Ba ?_ | with_reducible refine Bd ?_ | with_reducible refine Bn ?_))))).mono ?_); rintro e w1 ⟨rfl, b1⟩; have s1 : w.heap.size + 1 ≤ w1.heap.size := sz b1; have B1 := Lib.hid (Bc (B := w.heap.size) (a := w) (by (repeat (first | with_reducible exact Below.refl _ _ | with_reducible refine Bs ?_ | with_reducible refine Ba ?_ | with_reducible refine Bd ?_ | with_reducible refine Bn ?_))) b1); obtain ⟨c1_0, c1_1⟩ := k2 (w.heap.size) (.int .i64 D) (.slice ad n cc) b1 (by and_intros <;> go_simp); obtain ⟨l1_0, n1_0, m1_0⟩ := lnm (show w.heap.size < w1.heap.size by omega); clear b1
    go_wp2_with fail
    exact bodyPost_ret (v := .tuple #[.int .i64 0, .int .i64 E]) (by simp [results, Try.results85, go_sem]) rfl ⟨rfl, by (repeat (first | with_reducible exact Below.refl _ _ | with_reducible refine Bs ?_ | with_reducible refine Ba ?_ | with_reducible refine Bd ?_ | with_reducible refine Bn ?_ | with_reducible refine Bt B1.out ?_))⟩

end Go.Proofs.Ytdbonlpkmncggaa

namespace Go.Proofs.Ytdbonlpkmncggaa
open Go.RowKit

theorem lastW_snoc (l : List Nat) (j : Nat) : lastW (l ++ [j]) = j := by unfold lastW; simp

set_option maxRecDepth 100000 in
set_option maxHeartbeats 4000000 in
theorem leafT_any (v vx : Value) (t : TreeP) (x : List Int) (w : World) (h : TreeR w v t) (hx : Ints .i64 w vx x) :
    Calls Try.prog 61 #[v, vx] w fun e w' => e = .returned (.tuple #[.int .i64 (if pathE t x = 0 then (lastW (wayL t x) : Int) else 0), .int .i64 (if pathE t x = 0 then (((wayL t x).length - 1 : Nat) : Int) else 0), .int .i64 (pathE t x)]) ∧ Below w.heap.size w w' := by
  have HTR := Lib.hid h
  have HX := Lib.hid hx
  obtain ⟨nv, rfl, ad, cc, rfl, _, _, q3, hcell⟩ := h
  obtain ⟨ax, cx, rfl, _⟩ := hx
  unfold pathE
  cases hB : treeB t with
  | false =>
    have HC1 := Lib.hid (fun W (hW : TreeR W (.agg #[.int .i64 t.dim, .slice ad t.nodes.length cc]) t) => hB ▸ tis_any _ t W hW)
    clear hB hcell
    simp only [Bool.false_eq_true, if_false, show ¬ (100 : Int) = 0 by decide]
    generalize t.nodes.length = n at *
    generalize t.dim = D at *
    generalize x.length = m at *
    go_enter Try.func61, Try.ntmps61
    go_wp2_with fail
    (with_reducible refine (HC1.out _ (HTR.out.below (by (repeat (first | with_reducible exact Below.refl _ _ | with_reducible refine Bs ?_ | with_reducible refine Ba ?_ | with_reducible refine Bd ?_ | with_reducible refine Bn ?_))))).mono ?_); rintro e w1 ⟨rfl, b1⟩; have s1 : w.heap.size + 1 ≤ w1.heap.size := sz b1; have B1 := Lib.hid (Bc (B := w.heap.size) (a := w) (by (repeat (first | with_reducible exact Below.refl _ _ | with_reducible refine Bs ?_ | with_reducible refine Ba ?_ | with_reducible refine Bd ?_ | with_reducible refine Bn ?_))) b1); obtain ⟨c1_0, c1_1⟩ := k2 (w.heap.size) (.int .i64 D) (.slice ad n cc) b1 (by and_intros <;> go_simp); obtain ⟨l1_0, n1_0, m1_0⟩ := lnm (show w.heap.size < w1.heap.size by omega); clear b1
    go_wp2_with fail
    exact bodyPost_ret (v := .tuple #[.int .i64 0, .int .i64 0, .int .i64 100]) (by simp [results, Try.results61, go_sem]) rfl ⟨rfl, by (repeat (first | with_reducible exact Below.refl _ _ | with_reducible refine Bs ?_ | with_reducible refine Ba ?_ | with_reducible refine Bd ?_ | with_reducible refine Bn ?_ | with_reducible refine Bt B1.out ?_))⟩
  | true =>
    have HC1 := Lib.hid (fun W (hW : TreeR W (.agg #[.int .i64 t.dim, .slice ad t.nodes.length cc]) t) => hB ▸ tis_any _ t W hW)
    cases hV : vecB x t.dim with
    | false =>
      have HC2 := Lib.hid (fun W (hW : Ints .i64 W (.slice ax x.length cx) x) => hV ▸ vis_any _ x t.dim W hW)
      clear hB hV hcell
      simp only [if_true, Bool.false_eq_true, if_false, show ¬ (80 : Int) = 0 by decide]
      generalize t.nodes.length = n at *
      generalize t.dim = D at *
      generalize x.length = m at *
      go_enter Try.func61, Try.ntmps61
      go_wp2_with fail
      (with_reducible refine (HC1.out _ (HTR.out.below (by (repeat (first | with_reducible exact Below.refl _ _ | with_reducible refine Bs ?_ | with_reducible refine Ba ?_ | with_reducible refine Bd ?_ | with_reducible refine Bn ?_))))).mono ?_); rintro e w1 ⟨rfl, b1⟩; have s1 : w.heap.size + 1 ≤ w1.heap.size := sz b1; have B1 := Lib.hid (Bc (B := w.heap.size) (a := w) (by (repeat (first | with_reducible exact Below.refl _ _ | with_reducible refine Bs ?_ | with_reducible refine Ba ?_ | with_reducible refine Bd ?_ | with_reducible refine Bn ?_))) b1); obtain ⟨c1_0, c1_1⟩ := k2 (w.heap.size) (.int .i64 D) (.slice ad n cc) b1 (by and_intros <;> go_simp); obtain ⟨l1_0, n1_0, m1_0⟩ := lnm (show w.heap.size < w1.heap.size by omega); clear b1
      go_wp2_with fail
      refine (HC2.out _ (HX.out.below (by (repeat (first | with_reducible exact Below.refl _ _ | with_reducible refine Bs ?_ | with_reducible refine Ba ?_ | with_reducible refine Bd ?_ | with_reducible refine Bn ?_ | with_reducible refine Bt B1.out ?_))))).mono ?_
      rintro e w2 ⟨rfl, rfl⟩
      go_wp2_with fail
      exact bodyPost_ret (v := .tuple #[.int .i64 0, .int .i64 0, .int .i64 80]) (by simp [results, Try.results61, go_sem]) rfl ⟨rfl, by (repeat (first | with_reducible exact Below.refl _ _ | with_reducible refine Bs ?_ | with_reducible refine Ba ?_ | with_reducible refine Bd ?_ | with_reducible refine Bn ?_ | with_reducible refine Bt B1.out ?_))⟩
    | true =>
      have HC2 := Lib.hid (fun W (hW : Ints .i64 W (.slice ax x.length cx) x) => hV ▸ vis_any _ x t.dim W hW)
      obtain ⟨d1, d2, h0, s0, hsub, hs64, hlog⟩ := treeB_true.1 hB
      have h6 : h0 ≤ 6 := Nat.le_trans hlog (logI_le hs64)
      have HV := Lib.hid hV
      have HSUB := Lib.hid hsub
      have hn1 := hsub.lt
      clear hB hV hsub hlog
      simp only [if_true]
      obtain ⟨n, hn⟩ : ∃ n, t.nodes.length = n := ⟨_, rfl⟩
      rw [hn] at q3 HTR HC1 HSUB hn1 ⊢
      have HL := Lib.hid hn
      obtain ⟨b, o, rfl⟩ : ∃ b o, ad = some ⟨b, o, none⟩ := by
        obtain ⟨nd, hnd⟩ := getElem?_ex (l := t.nodes) (k := 0) (by omega)
        obtain ⟨b, o, e, _⟩ := hcell 0 nd hnd
        exact ⟨b, o, e⟩
      obtain ⟨m, hm⟩ : ∃ m, x.length = m := ⟨_, rfl⟩
      rw [hm] at HX HC2 ⊢
      obtain ⟨D, hD⟩ : ∃ D, t.dim = D := ⟨_, rfl⟩
      rw [hD] at HTR HC1 HC2 HV ⊢
      have HD := Lib.hid hD
      clear hcell hn hm hD
      go_enter Try.func61, Try.ntmps61
      go_wp2_with fail
      (with_reducible refine (HC1.out _ (HTR.out.below (by (repeat (first | with_reducible exact Below.refl _ _ | with_reducible refine Bs ?_ | with_reducible refine Ba ?_ | with_reducible refine Bd ?_ | with_reducible refine Bn ?_))))).mono ?_); rintro e w1 ⟨rfl, b1⟩; have s1 : w.heap.size + 1 ≤ w1.heap.size := sz b1; have B1 := Lib.hid (Bc (B := w.heap.size) (a := w) (by (repeat (first | with_reducible exact Below.refl _ _ | with_reducible refine Bs ?_ | with_reducible refine Ba ?_ | with_reducible refine Bd ?_ | with_reducible refine Bn ?_))) b1); obtain ⟨c1_0, c1_1⟩ := k2 (w.heap.size) (.int .i64 D) (.slice (some ⟨b, o, none⟩) n cc) b1 (by and_intros <;> go_simp); obtain ⟨l1_0, n1_0, m1_0⟩ := lnm (show w.heap.size < w1.heap.size by omega); clear b1
      go_wp2_with fail
      refine (HC2.out _ (HX.out.below (by (repeat (first | with_reducible exact Below.refl _ _ | with_reducible refine Bs ?_ | with_reducible refine Ba ?_ | with_reducible refine Bd ?_ | with_reducible refine Bn ?_ | with_reducible refine Bt B1.out ?_))))).mono ?_
      rintro e w2 ⟨rfl, rfl⟩
      go_wp2_with fail
      go_loopw [7, 8, 9, 10, 11] (fun at_ dp _ _ _ wr => ∃ (k j e h : Nat) (s : Int) (dn : List Nat), at_ = .int .i64 j ∧ dp = .int .i64 k ∧ Sub t j e h s ∧ wayL t x = dn ++ wayT t x h j ∧ dn.length = k ∧ k + h ≤ 6 ∧ Below w.heap.size w wr ∧ w.heap.size < wr.heap.size ∧ wr.cell? ⟨w.heap.size, 0, none⟩ = some (.int .i64 D) ∧ wr.cell? ⟨w.heap.size, 1, none⟩ = some (.slice (some ⟨b, o, none⟩) n cc)) (fun _ dp _ _ _ _ => 10 - (intOf dp).toNat)
      case atStart => exact ⟨0, 0, _, _, _, [], rfl, rfl, HSUB.out, by rw [List.nil_append]; exact (HSUB.out.way x 6 h6).1, rfl, by omega, B1.out, by omega, c1_0, c1_1⟩
      case round =>
        obtain ⟨k, j, e, h, s, dn, rfl, rfl, hsub, hway, hdn, hkh, hbr, hsz, y0, y1⟩ := hrel
        have HBR := Lib.hid hbr
        have HS := Lib.hid hsub
        have HW := Lib.hid hway
        have HDN := Lib.hid hdn
        obtain ⟨nd, hnd, _⟩ := hsub.at_
        have hjn : (j : Int) < n := by have := hsub.lt; have := HL.out; omega
        have hj0 : (0 : Int) ≤ j := by omega
        obtain ⟨hbw, hat⟩ := (HTR.out.below hbr).node hnd
        obtain ⟨ca, ccc, hci, e0, e1, e2, e3, e4⟩ := hat.val
        have HCI := Lib.hid hci
        have HXW := Lib.hid (HX.out.below hbr)
        rcases hsub.inv hnd with ⟨hl, _, hh, _⟩ | ⟨m', a', b', x', y', k1, k2, k3, k4, k5, k6, k7, k8⟩
        · obtain ⟨l1, _⟩ := leafB_is hl
          have hwl : wayL t x = dn ++ [j] := by rw [hway, wayT_leaf hnd l1]
          have HLN := Lib.hid (show (wayL t x).length - 1 = k by rw [hwl, List.length_append, hdn]; rfl)
          have HLW := Lib.hid (show lastW (wayL t x) = j by rw [hwl, lastW_snoc])
          rw [l1] at e2
          clear hbr hsub hway hdn hnd hat hci hl l1 hh hwl
          go_wp2_with fail
          exact bodyPost_ret (v := .tuple #[.int .i64 (j : Int), .int .i64 (k : Int), .int .i64 0]) (by simp [results, Try.results61, go_sem]) rfl ⟨by rw [HLN.out, HLW.out], HBR.out⟩
        · have hl0 : ¬ nd.left = 0 := by omega
          have hmt : nd.right.toNat = m' := by omega
          have HQ1 := Lib.hid k3
          have HQ2 := Lib.hid k5
          have hcl := fun W (hW : Ints .i64 W (.slice ca nd.coef.length ccc) nd.coef) (hX : Ints .i64 W (.slice ax m cx) x) => cleft_any _ _ nd.coef x nd.at_ W hW hX
          rw [leftR_ok k2 (by rw [HD.out]; exact HV.out)] at hcl
          have hw0 := wayT_node (x := x) hnd hl0 (max a' b')
          rw [hmt] at hw0
          have hway2 : wayL t x = (dn ++ [j]) ++ wayT t x (max a' b') (if leftB nd x then j + 1 else m') := by
            rw [hway, k7, Nat.add_comm 1, hw0, List.append_assoc]; rfl
          have HWY := Lib.hid hway2
          unfold leftB at HWY
          obtain ⟨LB, hlb⟩ : ∃ LB, decide (dotI nd.coef x < nd.at_) = LB := ⟨_, rfl⟩
          rw [hlb] at hcl HWY
          have HCL := Lib.hid hcl
          rw [k1] at e2
          rw [k4] at e3
          have hh : k + 1 + max a' b' ≤ 6 := by omega
          clear hbr hsub hway hdn hnd hat hci hl0 hmt hcl hw0 hway2 k1 k2 k3 k4 k5 k6 k7 k8 hlb
          generalize nd.at_ = xat at *
          generalize nd.size = xz at *
          generalize nd.coef.length = cl at *
          have hjp : (0 : Int) < (j : Int) + 1 := by omega
          cases LB with
          | true =>
            have HWN := Lib.hid (show wayL t x = (dn ++ [j]) ++ wayT t x a' (j + 1) by rw [HWY.out, if_pos rfl, (HQ1.out.way x _ (Nat.le_max_left _ _)).1])
            go_wp2_with fail
            (with_reducible refine (HCL.out _ (HCI.out.below (by (repeat (first | with_reducible exact Below.refl _ _ | with_reducible refine Bs ?_ | with_reducible refine Ba ?_ | with_reducible refine Bd ?_ | with_reducible refine Bn ?_)))) (HXW.out.below (by (repeat (first | with_reducible exact Below.refl _ _ | with_reducible refine Bs ?_ | with_reducible refine Ba ?_ | with_reducible refine Bd ?_ | with_reducible refine Bn ?_))))).mono ?_)
            rintro e w4 ⟨rfl, b4⟩
            have z0 : w4.cell? ⟨wr.heap.size, 0, none⟩ = some (.slice ca cl ccc) := (b4.cell (by first | omega | (simp; done) | (simp; omega))).trans (by go_simp)
            have z1 : w4.cell? ⟨wr.heap.size, 1, none⟩ = some (.int .i64 xat) := (b4.cell (by first | omega | (simp; done) | (simp; omega))).trans (by go_simp)
            have z2 : w4.cell? ⟨wr.heap.size, 2, none⟩ = some (.int .i64 ((j : Int) + 1)) := (b4.cell (by first | omega | (simp; done) | (simp; omega))).trans (by go_simp)
            have z3 : w4.cell? ⟨wr.heap.size, 3, none⟩ = some (.int .i64 m') := (b4.cell (by first | omega | (simp; done) | (simp; omega))).trans (by go_simp)
            have z4 : w4.cell? ⟨wr.heap.size, 4, none⟩ = some (.int .i64 xz) := (b4.cell (by first | omega | (simp; done) | (simp; omega))).trans (by go_simp)
            have t0 := (b4.cell (p := ⟨w.heap.size, 0, none⟩) (by first | omega | (simp; done) | (simp; omega))).trans (show _ = some (.int .i64 D) by go_simp)
            have t1 := (b4.cell (p := ⟨w.heap.size, 1, none⟩) (by first | omega | (simp; done) | (simp; omega))).trans (show _ = some (.slice (some ⟨b, o, none⟩) n cc) by go_simp)
            have B4 := Lib.hid (show Below wr.heap.size wr w4 from below_tr (by (repeat (first | with_reducible exact Below.refl _ _ | with_reducible refine Bs ?_ | with_reducible refine Ba ?_ | with_reducible refine Bd ?_ | with_reducible refine Bn ?_))) (b4.mono (by first | omega | (simp; done) | (simp; omega))))
            have s4 := B4.out.size
            clear b4
            go_wp2_with fail
            go_roundw
            case rel => exact ⟨k + 1, j + 1, _, _, _, dn ++ [j], by go_num, by go_num, HQ1.out, HWN.out, by rw [List.length_append, HDN.out]; rfl, by omega, HBR.out.trans (B4.out.mono (by omega)), by omega, t0, t1⟩
            case measure => simp [intOf] <;> omega
          | false =>
            have HWN := Lib.hid (show wayL t x = (dn ++ [j]) ++ wayT t x b' m' by rw [HWY.out, if_neg (by decide), (HQ2.out.way x _ (Nat.le_max_right _ _)).1])
            go_wp2_with fail
            (with_reducible refine (HCL.out _ (HCI.out.below (by (repeat (first | with_reducible exact Below.refl _ _ | with_reducible refine Bs ?_ | with_reducible refine Ba ?_ | with_reducible refine Bd ?_ | with_reducible refine Bn ?_)))) (HXW.out.below (by (repeat (first | with_reducible exact Below.refl _ _ | with_reducible refine Bs ?_ | with_reducible refine Ba ?_ | with_reducible refine Bd ?_ | with_reducible refine Bn ?_))))).mono ?_)
            rintro e w4 ⟨rfl, b4⟩
            have z0 : w4.cell? ⟨wr.heap.size, 0, none⟩ = some (.slice ca cl ccc) := (b4.cell (by first | omega | (simp; done) | (simp; omega))).trans (by go_simp)
            have z1 : w4.cell? ⟨wr.heap.size, 1, none⟩ = some (.int .i64 xat) := (b4.cell (by first | omega | (simp; done) | (simp; omega))).trans (by go_simp)
            have z2 : w4.cell? ⟨wr.heap.size, 2, none⟩ = some (.int .i64 ((j : Int) + 1)) := (b4.cell (by first | omega | (simp; done) | (simp; omega))).trans (by go_simp)
            have z3 : w4.cell? ⟨wr.heap.size, 3, none⟩ = some (.int .i64 m') := (b4.cell (by first | omega | (simp; done) | (simp; omega))).trans (by go_simp)
            have z4 : w4.cell? ⟨wr.heap.size, 4, none⟩ = some (.int .i64 xz) := (b4.cell (by first | omega | (simp; done) | (simp; omega))).trans (by go_simp)
            have t0 := (b4.cell (p := ⟨w.heap.size, 0, none⟩) (by first | omega | (simp; done) | (simp; omega))).trans (show _ = some (.int .i64 D) by go_simp)
            have t1 := (b4.cell (p := ⟨w.heap.size, 1, none⟩) (by first | omega | (simp; done) | (simp; omega))).trans (show _ = some (.slice (some ⟨b, o, none⟩) n cc) by go_simp)
            have B4 := Lib.hid (show Below wr.heap.size wr w4 from below_tr (by (repeat (first | with_reducible exact Below.refl _ _ | with_reducible refine Bs ?_ | with_reducible refine Ba ?_ | with_reducible refine Bd ?_ | with_reducible refine Bn ?_))) (b4.mono (by first | omega | (simp; done) | (simp; omega))))
            have s4 := B4.out.size
            clear b4
            go_wp2_with fail
            go_roundw
            case rel => exact ⟨k + 1, m', _, _, _, dn ++ [j], by go_num, by go_num, HQ2.out, HWN.out, by rw [List.length_append, HDN.out]; rfl, by omega, HBR.out.trans (B4.out.mono (by omega)), by omega, t0, t1⟩
            case measure => simp [intOf] <;> omega
end Go.Proofs.Ytdbonlpkmncggaa

namespace Go.Proofs.Ytdbonlpkmncggaa
open Go.RowKit

set_option maxHeartbeats 400000 in
theorem sEq_any (va vb : Value) (la lb : List Int) (w : World) (ha : Ints .i64 w va la) (hb : Ints .i64 w vb lb) :
    Calls Try.prog 104 #[va, vb] w fun e w' => e = .returned (.bool (decide (la = lb))) ∧ ∃ n, w' = w.drewN n := by
  obtain ⟨a, c, rfl, _, _, h3, ha⟩ := ha
  obtain ⟨b, d, rfl, _, _, h3', hb⟩ := hb
  have HA := Lib.hid ha; clear ha
  have HB := Lib.hid hb; clear hb
  obtain ⟨m, hm⟩ : ∃ m, lb.length = m := ⟨_, rfl⟩
  rw [hm] at h3' ⊢
  have HM := Lib.hid hm; clear hm
  by_cases hl : la.length = m
  · obtain rfl := hl
    have hb : ((la.length : Int) != la.length) = false := by simp
    go_enter Try.func104, Try.ntmps104
    go_wp2
    go_loopw [5, 13] (fun _ i wr => ∃ k : Nat, k ≤ la.length ∧ i = .int .i64 k ∧ (la.take k = lb.take k) ∧ ∃ n, wr = w.drewN n) (fun _ i _ => la.length - (intOf i).toNat)
    case atStart => exact ⟨0, Nat.zero_le _, rfl, rfl, 0, rfl⟩
    case round =>
      obtain ⟨k, hk, rfl, hpre, n, rfl⟩ := hrel
      have HP := Lib.hid hpre; clear hpre
      by_cases hlt : k < la.length
      · obtain ⟨x, hx⟩ := getElem?_ex hlt
        obtain ⟨y, hy⟩ := getElem?_ex (l := lb) (k := k) (by rw [HM.out]; exact hlt)
        obtain ⟨b1, o1, rfl, hb1, hc1⟩ := HA.out k x hx
        obtain ⟨b2, o2, rfl, hb2, hc2⟩ := HB.out k y hy
        have HX := Lib.hid hx; clear hx
        have HY := Lib.hid hy; clear hy
        go_wp2
        go_quiet (fail)
        go_wp2
        · go_ret
          have hne : (x != y) = true := by assumption
          refine ⟨ret_bool ?_, _, World.drewN_drewN _ _ _⟩
          symm; rw [decide_eq_false_iff_not]; rintro rfl
          have := HX.out.symm.trans HY.out
          simp_all
        · have hne : (x != y) = false := by assumption
          have : x = y := by simpa using hne
          subst this
          go_roundw
          case rel => exact ⟨k + 1, by omega, by go_num, take_step HX.out HY.out HP.out, _, rfl⟩
          case measure => simp [intOf] <;> omega
      · go_wp2
        go_ret
        refine ⟨ret_bool ?_, _, rfl⟩
        have hp := HP.out
        rw [List.take_of_length_le (by omega), List.take_of_length_le (by rw [HM.out]; omega)] at hp
        simp [hp]
  · have hb : ((la.length : Int) != m) = true := by simp; omega
    go_enter Try.func104, Try.ntmps104
    go_wp2
    go_ret
    refine ⟨ret_bool ?_, 0, rfl⟩
    symm; rw [decide_eq_false_iff_not]; rintro rfl
    exact hl HM.out
set_option maxRecDepth 100000 in
theorem cSame_any (v v2 : Value) (c c2 : List Int) (a a2 : Int) (w : World) (h : Ints .i64 w v c) (h2 : Ints .i64 w v2 c2) :
    Calls Try.prog 78 #[.agg #[v, .int .i64 a], .agg #[v2, .int .i64 a2]] w fun e w' => e = .returned (.bool (decide (a = a2) && decide (c = c2))) ∧ Below w.heap.size w w' := by
  have HS := Lib.hid (fun W (hW : Below w.heap.size w W) => sEq_any v v2 c c2 W (h.below hW) (h2.below hW))
  obtain ⟨x, k, rfl⟩ := h.shape
  obtain ⟨x2, k2, rfl⟩ := h2.shape
  obtain ⟨B, hB⟩ : ∃ B, decide (c = c2) = B := ⟨_, rfl⟩
  rw [hB] at HS ⊢
  clear h h2 hB
  by_cases ha : a = a2
  · subst ha
    have j : (a == a) = true := by simp
    rw [decide_eq_true rfl, Bool.true_and]
    go_enter Try.func78, Try.ntmps78
    go_wp2_with fail
    (with_reducible refine (HS.out _ (by (repeat (first | with_reducible exact Below.refl _ _ | with_reducible refine Bs ?_ | with_reducible refine Ba ?_ | with_reducible refine Bd ?_ | with_reducible refine Bn ?_)))).mono ?_)
    rintro e w1 ⟨rfl, d, rfl⟩
    go_wp2_with fail
    go_ret
    exact ⟨rfl, by (repeat (first | with_reducible exact Below.refl _ _ | with_reducible refine Bs ?_ | with_reducible refine Ba ?_ | with_reducible refine Bd ?_ | with_reducible refine Bn ?_))⟩
  · have j : (a == a2) = false := by simp [ha]
    rw [decide_eq_false ha, Bool.false_and]
    clear ha
    go_enter Try.func78, Try.ntmps78
    go_wp2_with fail
    go_ret
    exact ⟨rfl, by (repeat (first | with_reducible exact Below.refl _ _ | with_reducible refine Bs ?_ | with_reducible refine Ba ?_ | with_reducible refine Bd ?_ | with_reducible refine Bn ?_))⟩
end Go.Proofs.Ytdbonlpkmncggaa

namespace Go.Proofs.Ytdbonlpkmncggaa
open Go.RowKit

theorem leafAt_is {t : TreeP} (h : IsTree t) {k : Nat} {n : NodeP} (hn : t.nodes[k]? = some n) : isLeafAt t k = decide (n.left = 0) ∧ leafB n = decide (n.left = 0) := by
  obtain ⟨_, _, g, s, q, _⟩ := h
  have e := q.leafAt (Nat.zero_le k) (List.getElem?_eq_some_iff.1 hn).1 hn
  exact ⟨by unfold isLeafAt; rw [hn]; exact e, e⟩

def F64 (j : Nat) : Value := .int .i64 (j : Int)

set_option maxRecDepth 100000 in
set_option maxHeartbeats 2000000 in
theorem rleaves_any (v : Value) (t : TreeP) (w : World) (h : TreeR w v t) :
    Calls Try.prog 89 #[v] w fun e w' => ∃ vo, e = .returned vo ∧ Ints .i64 w' vo (if treeB t = true then (leavesT t t.nodes.length).map (fun (j : Nat) => (j : Int)) else []) ∧ Below w.heap.size w w' := by
  have HTR := Lib.hid h
  have HIS := Lib.hid (fun W (hW : TreeR W v t) => ristree_any v t W hW)
  obtain ⟨nv, rfl, ad, cc, rfl, _, _, q3, _⟩ := h
  obtain ⟨TB, hTB⟩ : ∃ TB, treeB t = TB := ⟨_, rfl⟩
  rw [hTB] at HIS ⊢
  cases TB with
  | false =>
    simp only [Bool.false_eq_true, if_false]
    clear hTB
    generalize t.nodes.length = n at *
    generalize t.dim = D at *
    rcases Nat.eq_zero_or_pos n with h0 | h0
    · subst h0
      go_enter Try.func89, Try.ntmps89
      go_wp2_with fail
      go_loopw [3, 4] (fun o i wr => o = .slice none 0 0 ∧ i = .int .i64 0 ∧ wr = w.alloc (.cells #[.int .i64 D, .slice ad 0 cc] 38)) (fun _ _ _ => 0)
      case atStart => exact ⟨rfl, rfl, rfl⟩
      case round =>
        obtain ⟨rfl, rfl, rfl⟩ := hrel
        go_wp2_with fail
        go_ret
        exact ⟨_, rfl, ints_nil _ _ _ _ (by omega), by (repeat (first | with_reducible exact Below.refl _ _ | with_reducible refine Bs ?_ | with_reducible refine Ba ?_ | with_reducible refine Bd ?_ | with_reducible refine Bn ?_))⟩
    · have hn0 : (0 : Int) < n := by omega
      go_enter Try.func89, Try.ntmps89
      go_wp2_with fail
      go_loopw [3, 4] (fun o i wr => o = .slice none 0 0 ∧ i = .int .i64 0 ∧ wr = w.alloc (.cells #[.int .i64 D, .slice ad n cc] 38)) (fun _ _ _ => 0)
      case atStart => exact ⟨rfl, rfl, rfl⟩
      case round =>
        obtain ⟨rfl, rfl, rfl⟩ := hrel
        go_wp2_with fail
        (with_reducible refine (HIS.out _ (HTR.out.below (by (repeat (first | with_reducible exact Below.refl _ _ | with_reducible refine Bs ?_ | with_reducible refine Ba ?_ | with_reducible refine Bd ?_ | with_reducible refine Bn ?_))))).mono ?_); rintro e w1 ⟨rfl, b1⟩; have s1 : w.heap.size + 1 ≤ w1.heap.size := sz b1; have B1 := Lib.hid (Bc (B := w.heap.size) (a := w) (by (repeat (first | with_reducible exact Below.refl _ _ | with_reducible refine Bs ?_ | with_reducible refine Ba ?_ | with_reducible refine Bd ?_ | with_reducible refine Bn ?_))) b1); have c1_0 : w1.cell? ⟨w.heap.size, 0, none⟩ = some (.int .i64 D) := kc b1 (by go_simp) (by first | omega | (simp; done) | (simp; omega)); obtain ⟨l1_0, n1_0, m1_0⟩ := lnm (show w.heap.size < w1.heap.size by omega); clear b1
        go_wp2_with fail
        go_ret
        exact ⟨_, rfl, ints_nil _ _ _ _ (by omega), by (repeat (first | with_reducible exact Below.refl _ _ | with_reducible refine Bs ?_ | with_reducible refine Ba ?_ | with_reducible refine Bd ?_ | with_reducible refine Bn ?_ | with_reducible refine Bt B1.out ?_))⟩
  | true =>
    simp only [if_true]
    have ht := treeB_true.1 hTB
    have HIT := Lib.hid ht
    have hlen := ht.len
    obtain ⟨b, o, rfl⟩ := HTR.out.addr (i := 0) (by omega)
    clear hTB ht
    obtain ⟨n, hn⟩ : ∃ n, t.nodes.length = n := ⟨_, rfl⟩
    rw [hn] at HTR HIS hlen q3 ⊢
    have HL := Lib.hid hn
    obtain ⟨D, hD⟩ : ∃ D, t.dim = D := ⟨_, rfl⟩
    rw [hD] at HTR HIS ⊢
    clear hn hD
    have hnI : (n : Int) ≤ 127 := by omega
    go_enter Try.func89, Try.ntmps89
    go_wp2_with fail
    go_loopw [3, 4] (fun out i wr => ∃ k : Nat, i = .int .i64 k ∧ k ≤ n ∧ wr.ownsRow (w.heap.size + 1) 3 1 out (leavesT t k).length ((leavesT t k).map F64) ∧ Below w.heap.size w wr ∧ w.heap.size < wr.heap.size ∧ wr.cell? ⟨w.heap.size, 0, none⟩ = some (.int .i64 D) ∧ wr.cell? ⟨w.heap.size, 1, none⟩ = some (.slice (some ⟨b, o, none⟩) n cc)) (fun _ i _ => n - (intOf i).toNat)
    case atStart => exact ⟨0, rfl, by omega, World.ownsRow_nil _ _ _ _, by (repeat (first | with_reducible exact Below.refl _ _ | with_reducible refine Bs ?_ | with_reducible refine Ba ?_ | with_reducible refine Bd ?_ | with_reducible refine Bn ?_)), by simp, by go_simp, by go_simp⟩
    case round =>
      obtain ⟨k, rfl, hk, hown, hbr, hsz, y0, y1⟩ := hrel
      have HOWN := Lib.hid hown
      have HBR := Lib.hid hbr
      by_cases hlt : k < n
      · obtain ⟨nd, hnd⟩ := getElem?_ex (l := t.nodes) (k := k) (by rw [HL.out]; exact hlt)
        obtain ⟨hbw, hat⟩ := (HTR.out.below hbr).node hnd
        obtain ⟨_, _, _, _, _, e2, _, _⟩ := hat.val
        obtain ⟨g1, g2⟩ := leafAt_is HIT.out hnd
        have hc : (leavesT t k).length ≤ k := by unfold leavesT; have := List.length_filter_le (isLeafAt t) (List.range k); simpa using this
        have i1 : (0 : Int) ≤ (k : Int) := by omega
        have i2 : (k : Int) < (n : Int) := by omega
        have HG := Lib.hid (leavesT_succ t k)
        rw [g1] at HG
        clear hown hbr hat hnd g1 g2
        by_cases h0 : nd.left = 0
        · rw [h0] at e2
          have HLS := Lib.hid (show leavesT t (k + 1) = leavesT t k ++ [k] by rw [HG.out]; simp [h0])
          clear h0
          go_wp2_with fail
          (with_reducible refine (HIS.out _ (HTR.out.below HBR.out)).mono ?_)
          rintro e w4 ⟨rfl, b4⟩
          have B4 := Lib.hid b4
          have own4 := own_keep HOWN.out fun g _ hg => b4.block g hg
          have OWN4 := Lib.hid own4
          have t0 := (b4.cell (p := ⟨w.heap.size, 0, none⟩) hsz).trans y0
          have t1 := (b4.cell (p := ⟨w.heap.size, 1, none⟩) hsz).trans y1
          have t2 := (b4.cell (p := ⟨b, o + k * 5 + 2, none⟩) hbw).trans e2
          have s4 := b4.size
          clear own4 b4
          go_wp2_with (at_builtin; go_must (refine app1 rfl _ _ 27 rfl Try.underlying27 eiInt (w.heap.size + 1) (by rfl) OWN4.out (by rfl) rfl (by simp [Value.oneCell']) (by omega) (by omega) ?_))
          intro v5 w5 hown5 hb5 _
          have u0 := (hb5.cell (p := ⟨w.heap.size, 0, none⟩) (by simp)).trans t0
          have u1 := (hb5.cell (p := ⟨w.heap.size, 1, none⟩) (by simp)).trans t1
          have s5 := hb5.size
          have OWN5 := Lib.hid hown5
          have B5 := Lib.hid (show Below w.heap.size w w5 from below_tr (below_tr HBR.out (B4.out.mono (by omega))) (hb5.mono (by omega)))
          clear hown5 hb5 t0 t1
          go_wp2_with fail
          go_roundw
          case rel =>
            refine ⟨k + 1, by go_num, by omega, ?_, B5.out, by omega, u0, u1⟩
            rw [HLS.out, List.length_append, List.length_singleton, List.map_append]
            exact OWN5.out
          case measure => simp [intOf] <;> omega
        · have HLS := Lib.hid (show leavesT t (k + 1) = leavesT t k by rw [HG.out]; simp [h0])
          have J := Lib.hid (show (nd.left == 0) = false by simp [h0])
          clear h0
          generalize nd.left = xl at *
          go_wp2_with fail
          (with_reducible refine (HIS.out _ (HTR.out.below HBR.out)).mono ?_)
          rintro e w4 ⟨rfl, b4⟩
          have B4 := Lib.hid b4
          have own4 := own_keep HOWN.out fun g _ hg => b4.block g hg
          have OWN4 := Lib.hid own4
          have t0 := (b4.cell (p := ⟨w.heap.size, 0, none⟩) hsz).trans y0
          have t1 := (b4.cell (p := ⟨w.heap.size, 1, none⟩) hsz).trans y1
          have t2 := (b4.cell (p := ⟨b, o + k * 5 + 2, none⟩) hbw).trans e2
          have s4 := b4.size
          have j := J.out
          clear own4 b4
          go_wp2_with fail
          go_roundw
          case rel => exact ⟨k + 1, by go_num, by omega, by rw [HLS.out]; exact OWN4.out, below_tr HBR.out (B4.out.mono (by omega)), by omega, t0, t1⟩
          case measure => simp [intOf] <;> omega
      · obtain rfl : k = n := by omega
        have i5 := Ints.own (l := (leavesT t k).map (fun (j : Nat) => (j : Int))) (by rw [List.map_map]; exact hown) (by
          have hc : (leavesT t k).length ≤ k := by unfold leavesT; have := List.length_filter_le (isLeafAt t) (List.range k); simpa using this
          simp; omega)
        have I5 := Lib.hid i5.2
        clear hown hbr i5
        go_wp2_with fail
        go_ret
        exact ⟨_, rfl, I5.out, HBR.out⟩
end Go.Proofs.Ytdbonlpkmncggaa
