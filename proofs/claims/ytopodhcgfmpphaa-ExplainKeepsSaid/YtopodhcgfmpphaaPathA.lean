/-
  Walk of path.way: down a tree with a vector, each node told.
-/
import Derived.Test.YtopodhcgfmpphaaTreeA
import Derived.Test.YtopodhcgfmpphaaHarmA
namespace Go.Proofs.Ytopodhcgfmpphaa
open Go.RowKit

theorem wayT_head (t : TreeP) (x : List Int) (f i : Nat) : (wayT t x f i)[0]? = some i := by
  cases f with
  | zero => rfl
  | succ f =>
    rw [wayT]
    split
    · rfl
    · split <;> rfl

theorem leftR_ok {c x : List Int} {a dim : Int} (hc : cutB c a dim = true) (hx : vecB x dim = true) : leftR c a x = (decide (dotI c x < a), 0) := by
  have hc2 := hc
  rw [cutB_is] at hc2
  simp only [Bool.and_eq_true] at hc2
  obtain ⟨_, _, h3, _⟩ := partsB_yes hc2.2
  rw [← h3] at hc hx hc2
  unfold leftR dotOk
  rw [hc, hc2.2, hx]
  rfl

/-- The nodes on the way of a vector through a tree. -/
def wayL (t : TreeP) (x : List Int) : List Nat := wayT t x 6 0
noncomputable def pathE (t : TreeP) (x : List Int) : Int := if treeB t = true then (if vecB x t.dim = true then 0 else 80) else 100

theorem cell_of_block {w w' : World} {b o : Nat} (h : w'.heap[b]? = w.heap[b]?) : w'.cell? ⟨b, o, none⟩ = w.cell? ⟨b, o, none⟩ := World.cell?_of_block (a := ⟨b, o, none⟩) h

set_option maxRecDepth 100000 in
set_option maxHeartbeats 4000000 in
theorem way_any (v vx : Value) (t : TreeP) (x : List Int) (f : FuncId) (caps : Array Value) (lo : Nat) (I : Nat → World → Prop) (w : World) (hcf : ∀ args W, Sem.run Try.prog (callFunc f args) W = Result.ok (Next.enter f args) W) (h : TreeR w v t) (hx : Ints .i64 w vx x)
    (hlo : ∀ W, Below lo w W → TreeR W v t ∧ Ints .i64 W vx x) (hlo2 : lo ≤ w.heap.size) (hst : ∀ k W W', I k W → Below W.heap.size W W' → I k W') (hI : I 0 w)
    (hT : ∀ (k j : Nat) W, (wayL t x)[k]? = some j → k ≤ 6 → I k W → w.heap.size < W.heap.size → Calls Try.prog f (#[.int .i64 (j : Int), .int .i64 (k : Int)] ++ caps) W fun e w' => (∃ r, e = .returned r) ∧ I (k + 1) w' ∧ Below lo W w' ∧ w'.heap[w.heap.size]? = W.heap[w.heap.size]?) :
    Calls Try.prog 115 #[v, vx, .func (.func f) #[] caps] w fun e w' => e = .returned (.int .i64 (pathE t x)) ∧ I (if pathE t x = 0 then (wayL t x).length else 0) w' ∧ Below lo w w' := by
  have HT := Lib.hid hT
  have HST := Lib.hid hst
  have HLO := Lib.hid hlo
  have HI0 := Lib.hid hI
  have HTR := Lib.hid h
  have HX := Lib.hid hx
  clear hT hst hlo hI
  obtain ⟨nv, rfl, ad, cc, rfl, _, _, q3, hcell⟩ := h
  obtain ⟨ax, cx, rfl, _⟩ := hx
  unfold pathE
  cases hB : treeB t with
  | false =>
    have HC1 := Lib.hid (fun W (hW : TreeR W (.agg #[.int .i64 t.dim, .slice ad t.nodes.length cc]) t) => hB ▸ tis_any _ t W hW)
    clear hB hcell
    generalize t.nodes.length = n at *
    generalize t.dim = D at *
    generalize x.length = m at *
    go_enter Try.func115, Try.ntmps115
    go_wp2_with fail
    (with_reducible refine (HC1.out _ (HTR.out.below (by (repeat (first | with_reducible exact Below.refl _ _ | ((with_reducible refine Below.setCell ?_ ?_ _); rotate_left; (focus (first | omega | (simp; done) | (simp; omega)))) | ((with_reducible refine Below.alloc ?_ ?_ _); rotate_left; (focus (first | omega | (simp; done) | (simp; omega)))) | (with_reducible refine Below.drew ?_) | (with_reducible refine below_drewN ?_ _)))))).mono ?_); rintro e w1 ⟨rfl, b1⟩; have s1 : w.heap.size + 1 ≤ w1.heap.size := (by have := b1.size; first | omega | (simp at this; omega)); have B1 := Lib.hid (show Below w.heap.size w w1 from below_tr (by (repeat (first | with_reducible exact Below.refl _ _ | ((with_reducible refine Below.setCell ?_ ?_ _); rotate_left; (focus (first | omega | (simp; done) | (simp; omega)))) | ((with_reducible refine Below.alloc ?_ ?_ _); rotate_left; (focus (first | omega | (simp; done) | (simp; omega)))) | (with_reducible refine Below.drew ?_) | (with_reducible refine below_drewN ?_ _)))) (b1.mono (by first | omega | (simp; done) | (simp; omega)))); have c1_0 : w1.cell? ⟨w.heap.size, 0, none⟩ = some (.int .i64 D) := (b1.cell (by first | omega | (simp; done) | (simp; omega))).trans (by go_simp); have c1_1 : w1.cell? ⟨w.heap.size, 1, none⟩ = some (.slice ad n cc) := (b1.cell (by first | omega | (simp; done) | (simp; omega))).trans (by go_simp); have l1_0 : w.heap.size < w1.heap.size := (by omega); have n1_0 : w.heap.size ≠ w1.heap.size := (by omega); have m1_0 : w1.heap.size ≠ w.heap.size := (by omega); clear b1
    go_wp2_with fail
    go_ret
    exact ⟨rfl, HST.out 0 _ _ HI0.out (by (repeat (first | with_reducible exact Below.refl _ _ | ((with_reducible refine Below.setCell ?_ ?_ _); rotate_left; (focus (first | omega | (simp; done) | (simp; omega)))) | ((with_reducible refine Below.alloc ?_ ?_ _); rotate_left; (focus (first | omega | (simp; done) | (simp; omega)))) | (with_reducible refine Below.drew ?_) | (with_reducible refine below_drewN ?_ _) | ((with_reducible refine Below.trans ?_ (Below.mono B1.out ?_)); rotate_left; (focus (first | omega | (simp; done) | (simp; omega))))))), (show Below w.heap.size w w1 from by (repeat (first | with_reducible exact Below.refl _ _ | ((with_reducible refine Below.setCell ?_ ?_ _); rotate_left; (focus (first | omega | (simp; done) | (simp; omega)))) | ((with_reducible refine Below.alloc ?_ ?_ _); rotate_left; (focus (first | omega | (simp; done) | (simp; omega)))) | (with_reducible refine Below.drew ?_) | (with_reducible refine below_drewN ?_ _) | ((with_reducible refine Below.trans ?_ (Below.mono B1.out ?_)); rotate_left; (focus (first | omega | (simp; done) | (simp; omega))))))).mono hlo2⟩
  | true =>
    cases hV : vecB x t.dim with
    | false =>
      have HC1 := Lib.hid (fun W (hW : TreeR W (.agg #[.int .i64 t.dim, .slice ad t.nodes.length cc]) t) => hB ▸ tis_any _ t W hW)
      have HC2 := Lib.hid (fun W (hW : Ints .i64 W (.slice ax x.length cx) x) => hV ▸ vis_any _ x t.dim W hW)
      clear hB hV hcell
      generalize t.nodes.length = n at *
      generalize t.dim = D at *
      generalize x.length = m at *
      go_enter Try.func115, Try.ntmps115
      go_wp2_with fail
      (with_reducible refine (HC1.out _ (HTR.out.below (by (repeat (first | with_reducible exact Below.refl _ _ | ((with_reducible refine Below.setCell ?_ ?_ _); rotate_left; (focus (first | omega | (simp; done) | (simp; omega)))) | ((with_reducible refine Below.alloc ?_ ?_ _); rotate_left; (focus (first | omega | (simp; done) | (simp; omega)))) | (with_reducible refine Below.drew ?_) | (with_reducible refine below_drewN ?_ _)))))).mono ?_); rintro e w1 ⟨rfl, b1⟩; have s1 : w.heap.size + 1 ≤ w1.heap.size := (by have := b1.size; first | omega | (simp at this; omega)); have B1 := Lib.hid (show Below w.heap.size w w1 from below_tr (by (repeat (first | with_reducible exact Below.refl _ _ | ((with_reducible refine Below.setCell ?_ ?_ _); rotate_left; (focus (first | omega | (simp; done) | (simp; omega)))) | ((with_reducible refine Below.alloc ?_ ?_ _); rotate_left; (focus (first | omega | (simp; done) | (simp; omega)))) | (with_reducible refine Below.drew ?_) | (with_reducible refine below_drewN ?_ _)))) (b1.mono (by first | omega | (simp; done) | (simp; omega)))); have c1_0 : w1.cell? ⟨w.heap.size, 0, none⟩ = some (.int .i64 D) := (b1.cell (by first | omega | (simp; done) | (simp; omega))).trans (by go_simp); have c1_1 : w1.cell? ⟨w.heap.size, 1, none⟩ = some (.slice ad n cc) := (b1.cell (by first | omega | (simp; done) | (simp; omega))).trans (by go_simp); have l1_0 : w.heap.size < w1.heap.size := (by omega); have n1_0 : w.heap.size ≠ w1.heap.size := (by omega); have m1_0 : w1.heap.size ≠ w.heap.size := (by omega); clear b1
      go_wp2_with fail
      refine (HC2.out _ (HX.out.below (by (repeat (first | with_reducible exact Below.refl _ _ | ((with_reducible refine Below.setCell ?_ ?_ _); rotate_left; (focus (first | omega | (simp; done) | (simp; omega)))) | ((with_reducible refine Below.alloc ?_ ?_ _); rotate_left; (focus (first | omega | (simp; done) | (simp; omega)))) | (with_reducible refine Below.drew ?_) | (with_reducible refine below_drewN ?_ _) | ((with_reducible refine Below.trans ?_ (Below.mono B1.out ?_)); rotate_left; (focus (first | omega | (simp; done) | (simp; omega))))))))).mono ?_
      rintro e w2 ⟨rfl, rfl⟩
      go_wp2_with fail
      go_ret
      exact ⟨rfl, HST.out 0 _ _ HI0.out (by (repeat (first | with_reducible exact Below.refl _ _ | ((with_reducible refine Below.setCell ?_ ?_ _); rotate_left; (focus (first | omega | (simp; done) | (simp; omega)))) | ((with_reducible refine Below.alloc ?_ ?_ _); rotate_left; (focus (first | omega | (simp; done) | (simp; omega)))) | (with_reducible refine Below.drew ?_) | (with_reducible refine below_drewN ?_ _) | ((with_reducible refine Below.trans ?_ (Below.mono B1.out ?_)); rotate_left; (focus (first | omega | (simp; done) | (simp; omega))))))), (show Below w.heap.size w w1 from by (repeat (first | with_reducible exact Below.refl _ _ | ((with_reducible refine Below.setCell ?_ ?_ _); rotate_left; (focus (first | omega | (simp; done) | (simp; omega)))) | ((with_reducible refine Below.alloc ?_ ?_ _); rotate_left; (focus (first | omega | (simp; done) | (simp; omega)))) | (with_reducible refine Below.drew ?_) | (with_reducible refine below_drewN ?_ _) | ((with_reducible refine Below.trans ?_ (Below.mono B1.out ?_)); rotate_left; (focus (first | omega | (simp; done) | (simp; omega))))))).mono hlo2⟩
    | true =>
      have HC1 := Lib.hid (fun W (hW : TreeR W (.agg #[.int .i64 t.dim, .slice ad t.nodes.length cc]) t) => hB ▸ tis_any _ t W hW)
      have HC2 := Lib.hid (fun W (hW : Ints .i64 W (.slice ax x.length cx) x) => hV ▸ vis_any _ x t.dim W hW)
      obtain ⟨d1, d2, h0, s0, hsub, hs64, hlog⟩ := treeB_true.1 hB
      have h6 : h0 ≤ 6 := Nat.le_trans hlog (logI_le hs64)
      have HV := Lib.hid hV
      have HSUB := Lib.hid hsub
      have hn1 := hsub.lt
      clear hB hV hsub hlog
      obtain ⟨n, hn⟩ : ∃ n, t.nodes.length = n := ⟨_, rfl⟩
      rw [hn] at q3 HTR HC1 HSUB hn1 HLO ⊢
      have HL := Lib.hid hn
      obtain ⟨b, o, rfl⟩ : ∃ b o, ad = some ⟨b, o, none⟩ := by
        obtain ⟨nd, hnd⟩ := getElem?_ex (l := t.nodes) (k := 0) (by omega)
        obtain ⟨b, o, e, _⟩ := hcell 0 nd hnd
        exact ⟨b, o, e⟩
      obtain ⟨m, hm⟩ : ∃ m, x.length = m := ⟨_, rfl⟩
      rw [hm] at HX HC2 HLO ⊢
      obtain ⟨D, hD⟩ : ∃ D, t.dim = D := ⟨_, rfl⟩
      rw [hD] at HTR HC1 HC2 HV HLO ⊢
      have HD := Lib.hid hD
      clear hcell hn hm hD
      have hT0 := fun W => HT.out 0 0 W (wayT_head t x 6 0) (by omega)
      rw [Int.natCast_zero] at hT0
      have HT0 := Lib.hid hT0
      clear hT0
      simp only [if_true]
      go_enter Try.func115, Try.ntmps115
      go_wp2_with fail
      (with_reducible refine (HC1.out _ (HTR.out.below (by (repeat (first | with_reducible exact Below.refl _ _ | ((with_reducible refine Below.setCell ?_ ?_ _); rotate_left; (focus (first | omega | (simp; done) | (simp; omega)))) | ((with_reducible refine Below.alloc ?_ ?_ _); rotate_left; (focus (first | omega | (simp; done) | (simp; omega)))) | (with_reducible refine Below.drew ?_) | (with_reducible refine below_drewN ?_ _)))))).mono ?_); rintro e w1 ⟨rfl, b1⟩; have s1 : w.heap.size + 1 ≤ w1.heap.size := (by have := b1.size; first | omega | (simp at this; omega)); have B1 := Lib.hid (show Below w.heap.size w w1 from below_tr (by (repeat (first | with_reducible exact Below.refl _ _ | ((with_reducible refine Below.setCell ?_ ?_ _); rotate_left; (focus (first | omega | (simp; done) | (simp; omega)))) | ((with_reducible refine Below.alloc ?_ ?_ _); rotate_left; (focus (first | omega | (simp; done) | (simp; omega)))) | (with_reducible refine Below.drew ?_) | (with_reducible refine below_drewN ?_ _)))) (b1.mono (by first | omega | (simp; done) | (simp; omega)))); have c1_0 : w1.cell? ⟨w.heap.size, 0, none⟩ = some (.int .i64 D) := (b1.cell (by first | omega | (simp; done) | (simp; omega))).trans (by go_simp); have c1_1 : w1.cell? ⟨w.heap.size, 1, none⟩ = some (.slice (some ⟨b, o, none⟩) n cc) := (b1.cell (by first | omega | (simp; done) | (simp; omega))).trans (by go_simp); have l1_0 : w.heap.size < w1.heap.size := (by omega); have n1_0 : w.heap.size ≠ w1.heap.size := (by omega); have m1_0 : w1.heap.size ≠ w.heap.size := (by omega); clear b1
      go_wp2_with fail
      refine (HC2.out _ (HX.out.below (by (repeat (first | with_reducible exact Below.refl _ _ | ((with_reducible refine Below.setCell ?_ ?_ _); rotate_left; (focus (first | omega | (simp; done) | (simp; omega)))) | ((with_reducible refine Below.alloc ?_ ?_ _); rotate_left; (focus (first | omega | (simp; done) | (simp; omega)))) | (with_reducible refine Below.drew ?_) | (with_reducible refine below_drewN ?_ _) | ((with_reducible refine Below.trans ?_ (Below.mono B1.out ?_)); rotate_left; (focus (first | omega | (simp; done) | (simp; omega))))))))).mono ?_
      rintro e w2 ⟨rfl, rfl⟩
      go_wp2_with fail
      (with_reducible refine (HT0.out w1 (HST.out 0 _ _ HI0.out (by (repeat (first | with_reducible exact Below.refl _ _ | ((with_reducible refine Below.setCell ?_ ?_ _); rotate_left; (focus (first | omega | (simp; done) | (simp; omega)))) | ((with_reducible refine Below.alloc ?_ ?_ _); rotate_left; (focus (first | omega | (simp; done) | (simp; omega)))) | (with_reducible refine Below.drew ?_) | (with_reducible refine below_drewN ?_ _) | ((with_reducible refine Below.trans ?_ (Below.mono B1.out ?_)); rotate_left; (focus (first | omega | (simp; done) | (simp; omega)))))))) (by omega)).mono ?_)
      rintro e w3 ⟨⟨r, rfl⟩, hI1, b3, hk3⟩
      have g0 := (cell_of_block (o := 0) hk3).trans c1_0
      have g1 := (cell_of_block (o := 1) hk3).trans c1_1
      have HI1 := Lib.hid hI1
      have B3 := Lib.hid (show Below lo w w3 from below_tr ((show Below w.heap.size w w1 from by (repeat (first | with_reducible exact Below.refl _ _ | ((with_reducible refine Below.setCell ?_ ?_ _); rotate_left; (focus (first | omega | (simp; done) | (simp; omega)))) | ((with_reducible refine Below.alloc ?_ ?_ _); rotate_left; (focus (first | omega | (simp; done) | (simp; omega)))) | (with_reducible refine Below.drew ?_) | (with_reducible refine below_drewN ?_ _) | ((with_reducible refine Below.trans ?_ (Below.mono B1.out ?_)); rotate_left; (focus (first | omega | (simp; done) | (simp; omega))))))).mono hlo2) b3)
      have s3 := b3.size
      clear hI1 b3 hk3
      go_wp2_with fail
      go_loopw [7, 8, 9, 10, 11] (fun at_ dp _ _ _ wr => ∃ (k j e h : Nat) (s : Int) (dn : List Nat), at_ = .int .i64 j ∧ dp = .int .i64 k ∧ Sub t j e h s ∧ wayL t x = dn ++ wayT t x h j ∧ dn.length = k ∧ k + h ≤ 6 ∧ I (k + 1) wr ∧ Below lo w wr ∧ w.heap.size < wr.heap.size ∧ wr.cell? ⟨w.heap.size, 0, none⟩ = some (.int .i64 D) ∧ wr.cell? ⟨w.heap.size, 1, none⟩ = some (.slice (some ⟨b, o, none⟩) n cc)) (fun _ dp _ _ _ _ => 10 - (intOf dp).toNat)
      case atStart => exact ⟨0, 0, _, _, _, [], rfl, rfl, HSUB.out, by rw [List.nil_append]; exact (HSUB.out.way x 6 h6).1, rfl, by omega, HI1.out, B3.out, by omega, g0, g1⟩
      case round =>
        obtain ⟨k, j, e, h, s, dn, rfl, rfl, hsub, hway, hdn, hkh, hI, hbr, hsz, y0, y1⟩ := hrel
        have HI := Lib.hid hI
        have HBR := Lib.hid hbr
        have HS := Lib.hid hsub
        have HW := Lib.hid hway
        have HDN := Lib.hid hdn
        obtain ⟨nd, hnd, _⟩ := hsub.at_
        have hjn : (j : Int) < n := by have := hsub.lt; have := HL.out; omega
        have hj0 : (0 : Int) ≤ j := by omega
        obtain ⟨hbw, hat⟩ := (HLO.out wr hbr).1.node hnd
        obtain ⟨ca, ccc, hci, e0, e1, e2, e3, e4⟩ := hat.val
        have HCI := Lib.hid hci
        have HXW := Lib.hid (HLO.out wr hbr).2
        rcases hsub.inv hnd with ⟨hl, _, hh, _⟩ | ⟨m', a', b', x', y', k1, k2, k3, k4, k5, k6, k7, k8⟩
        · obtain ⟨l1, _⟩ := leafB_is hl
          have HLN := Lib.hid (show (wayL t x).length = k + 1 by rw [hway, wayT_leaf hnd l1, List.length_append, hdn]; rfl)
          rw [l1] at e2
          clear hI hbr hsub hway hdn hnd hat hci hl l1 hh
          go_wp2_with fail
          exact bodyPost_ret (v := .int .i64 0) (by simp [results, Try.results115, go_sem]) rfl ⟨rfl, by rw [HLN.out]; exact HI.out, HBR.out⟩
        · have hl0 : ¬ nd.left = 0 := by omega
          have hmt : nd.right.toNat = m' := by omega
          have HQ1 := Lib.hid k3
          have HQ2 := Lib.hid k5
          have hcl := fun W (hW : Ints .i64 W (.slice ca nd.coef.length ccc) nd.coef) (hX : Ints .i64 W (.slice ax m cx) x) => cleft_any _ _ nd.coef x nd.at_ W hW hX
          rw [leftR_ok k2 (by rw [HD.out]; exact HV.out)] at hcl
          have hw0 := wayT_node (x := x) hnd hl0 (max a' b')
          rw [hmt] at hw0
          have hway2 : wayL t x = (dn ++ [j]) ++ wayT t x (max a' b') (if leftB nd x then j + 1 else m') := by
            rw [hway, k7, Nat.add_comm 1, hw0, List.append_assoc]; rfl
          have HWY := Lib.hid hway2
          unfold leftB at HWY
          obtain ⟨LB, hlb⟩ : ∃ LB, decide (dotI nd.coef x < nd.at_) = LB := ⟨_, rfl⟩
          rw [hlb] at hcl HWY
          have HCL := Lib.hid hcl
          rw [k1] at e2
          rw [k4] at e3
          have hh : k + 1 + max a' b' ≤ 6 := by omega
          clear hI hbr hsub hway hdn hnd hat hci hl0 hmt hcl hw0 hway2 k1 k2 k3 k4 k5 k6 k7 k8 hlb
          generalize nd.at_ = xat at *
          generalize nd.size = xz at *
          generalize nd.coef.length = cl at *
          cases LB with
          | true =>
            have HWN := Lib.hid (show wayL t x = (dn ++ [j]) ++ wayT t x a' (j + 1) by rw [HWY.out, if_pos rfl, (HQ1.out.way x _ (Nat.le_max_left _ _)).1])
            have htn := fun W => HT.out (k + 1) (j + 1) W (by rw [HWN.out, List.getElem?_append_right (by simp [HDN.out]), show k + 1 - (dn ++ [j]).length = 0 by simp [HDN.out]]; exact wayT_head _ _ _ _) (by omega)
            rw [show ((j + 1 : Nat) : Int) = (j : Int) + 1 by omega, show ((k + 1 : Nat) : Int) = (k : Int) + 1 by omega] at htn
            have HTN := Lib.hid htn
            clear htn
            go_wp2_with fail
            (with_reducible refine (HCL.out _ (HCI.out.below (by (repeat (first | with_reducible exact Below.refl _ _ | ((with_reducible refine Below.setCell ?_ ?_ _); rotate_left; (focus (first | omega | (simp; done) | (simp; omega)))) | ((with_reducible refine Below.alloc ?_ ?_ _); rotate_left; (focus (first | omega | (simp; done) | (simp; omega)))) | (with_reducible refine Below.drew ?_) | (with_reducible refine below_drewN ?_ _))))) (HXW.out.below (by (repeat (first | with_reducible exact Below.refl _ _ | ((with_reducible refine Below.setCell ?_ ?_ _); rotate_left; (focus (first | omega | (simp; done) | (simp; omega)))) | ((with_reducible refine Below.alloc ?_ ?_ _); rotate_left; (focus (first | omega | (simp; done) | (simp; omega)))) | (with_reducible refine Below.drew ?_) | (with_reducible refine below_drewN ?_ _)))))).mono ?_)
            rintro e w4 ⟨rfl, b4⟩
            have z0 : w4.cell? ⟨wr.heap.size, 0, none⟩ = some (.slice ca cl ccc) := (b4.cell (by first | omega | (simp; done) | (simp; omega))).trans (by go_simp)
            have z1 : w4.cell? ⟨wr.heap.size, 1, none⟩ = some (.int .i64 xat) := (b4.cell (by first | omega | (simp; done) | (simp; omega))).trans (by go_simp)
            have z2 : w4.cell? ⟨wr.heap.size, 2, none⟩ = some (.int .i64 ((j : Int) + 1)) := (b4.cell (by first | omega | (simp; done) | (simp; omega))).trans (by go_simp)
            have z3 : w4.cell? ⟨wr.heap.size, 3, none⟩ = some (.int .i64 m') := (b4.cell (by first | omega | (simp; done) | (simp; omega))).trans (by go_simp)
            have z4 : w4.cell? ⟨wr.heap.size, 4, none⟩ = some (.int .i64 xz) := (b4.cell (by first | omega | (simp; done) | (simp; omega))).trans (by go_simp)
            have t0 := (b4.cell (p := ⟨w.heap.size, 0, none⟩) (by first | omega | (simp; done) | (simp; omega))).trans (show _ = some (.int .i64 D) by go_simp)
            have t1 := (b4.cell (p := ⟨w.heap.size, 1, none⟩) (by first | omega | (simp; done) | (simp; omega))).trans (show _ = some (.slice (some ⟨b, o, none⟩) n cc) by go_simp)
            have B4 := Lib.hid (show Below wr.heap.size wr w4 from below_tr (by (repeat (first | with_reducible exact Below.refl _ _ | ((with_reducible refine Below.setCell ?_ ?_ _); rotate_left; (focus (first | omega | (simp; done) | (simp; omega)))) | ((with_reducible refine Below.alloc ?_ ?_ _); rotate_left; (focus (first | omega | (simp; done) | (simp; omega)))) | (with_reducible refine Below.drew ?_) | (with_reducible refine below_drewN ?_ _)))) (b4.mono (by first | omega | (simp; done) | (simp; omega))))
            have s4 := B4.out.size
            clear b4
            go_wp2_with fail
            (with_reducible refine (HTN.out w4 (HST.out (k + 1) _ _ HI.out B4.out) (by omega)).mono ?_)
            rintro e w5 ⟨⟨r, rfl⟩, hI5, b5, hk5⟩
            have g0 := (cell_of_block (o := 0) hk5).trans t0
            have g1 := (cell_of_block (o := 1) hk5).trans t1
            have HI5 := Lib.hid hI5
            have B5 := Lib.hid (show Below lo w w5 from below_tr (below_tr HBR.out (B4.out.mono (by omega))) b5)
            have s5 := b5.size
            clear hI5 b5 hk5 t0 t1
            go_wp2_with fail
            go_roundw
            case rel => exact ⟨k + 1, j + 1, _, _, _, dn ++ [j], by go_num, by go_num, HQ1.out, HWN.out, by rw [List.length_append, HDN.out]; rfl, by omega, HI5.out, B5.out, by omega, g0, g1⟩
            case measure => simp [intOf] <;> omega
          | false =>
            have HWN := Lib.hid (show wayL t x = (dn ++ [j]) ++ wayT t x b' m' by rw [HWY.out, if_neg (by decide), (HQ2.out.way x _ (Nat.le_max_right _ _)).1])
            have htn := fun W => HT.out (k + 1) m' W (by rw [HWN.out, List.getElem?_append_right (by simp [HDN.out]), show k + 1 - (dn ++ [j]).length = 0 by simp [HDN.out]]; exact wayT_head _ _ _ _) (by omega)
            rw [show ((k + 1 : Nat) : Int) = (k : Int) + 1 by omega] at htn
            have HTN := Lib.hid htn
            clear htn
            go_wp2_with fail
            (with_reducible refine (HCL.out _ (HCI.out.below (by (repeat (first | with_reducible exact Below.refl _ _ | ((with_reducible refine Below.setCell ?_ ?_ _); rotate_left; (focus (first | omega | (simp; done) | (simp; omega)))) | ((with_reducible refine Below.alloc ?_ ?_ _); rotate_left; (focus (first | omega | (simp; done) | (simp; omega)))) | (with_reducible refine Below.drew ?_) | (with_reducible refine below_drewN ?_ _))))) (HXW.out.below (by (repeat (first | with_reducible exact Below.refl _ _ | ((with_reducible refine Below.setCell ?_ ?_ _); rotate_left; (focus (first | omega | (simp; done) | (simp; omega)))) | ((with_reducible refine Below.alloc ?_ ?_ _); rotate_left; (focus (first | omega | (simp; done) | (simp; omega)))) | (with_reducible refine Below.drew ?_) | (with_reducible refine below_drewN ?_ _)))))).mono ?_)
            rintro e w4 ⟨rfl, b4⟩
            have z0 : w4.cell? ⟨wr.heap.size, 0, none⟩ = some (.slice ca cl ccc) := (b4.cell (by first | omega | (simp; done) | (simp; omega))).trans (by go_simp)
            have z1 : w4.cell? ⟨wr.heap.size, 1, none⟩ = some (.int .i64 xat) := (b4.cell (by first | omega | (simp; done) | (simp; omega))).trans (by go_simp)
            have z2 : w4.cell? ⟨wr.heap.size, 2, none⟩ = some (.int .i64 ((j : Int) + 1)) := (b4.cell (by first | omega | (simp; done) | (simp; omega))).trans (by go_simp)
            have z3 : w4.cell? ⟨wr.heap.size, 3, none⟩ = some (.int .i64 m') := (b4.cell (by first | omega | (simp; done) | (simp; omega))).trans (by go_simp)
            have z4 : w4.cell? ⟨wr.heap.size, 4, none⟩ = some (.int .i64 xz) := (b4.cell (by first | omega | (simp; done) | (simp; omega))).trans (by go_simp)
            have t0 := (b4.cell (p := ⟨w.heap.size, 0, none⟩) (by first | omega | (simp; done) | (simp; omega))).trans (show _ = some (.int .i64 D) by go_simp)
            have t1 := (b4.cell (p := ⟨w.heap.size, 1, none⟩) (by first | omega | (simp; done) | (simp; omega))).trans (show _ = some (.slice (some ⟨b, o, none⟩) n cc) by go_simp)
            have B4 := Lib.hid (show Below wr.heap.size wr w4 from below_tr (by (repeat (first | with_reducible exact Below.refl _ _ | ((with_reducible refine Below.setCell ?_ ?_ _); rotate_left; (focus (first | omega | (simp; done) | (simp; omega)))) | ((with_reducible refine Below.alloc ?_ ?_ _); rotate_left; (focus (first | omega | (simp; done) | (simp; omega)))) | (with_reducible refine Below.drew ?_) | (with_reducible refine below_drewN ?_ _)))) (b4.mono (by first | omega | (simp; done) | (simp; omega))))
            have s4 := B4.out.size
            clear b4
            go_wp2_with fail
            (with_reducible refine (HTN.out w4 (HST.out (k + 1) _ _ HI.out B4.out) (by omega)).mono ?_)
            rintro e w5 ⟨⟨r, rfl⟩, hI5, b5, hk5⟩
            have g0 := (cell_of_block (o := 0) hk5).trans t0
            have g1 := (cell_of_block (o := 1) hk5).trans t1
            have HI5 := Lib.hid hI5
            have B5 := Lib.hid (show Below lo w w5 from below_tr (below_tr HBR.out (B4.out.mono (by omega))) b5)
            have s5 := b5.size
            clear hI5 b5 hk5 t0 t1
            go_wp2_with fail
            go_roundw
            case rel => exact ⟨k + 1, m', _, _, _, dn ++ [j], by go_num, by go_num, HQ2.out, HWN.out, by rw [List.length_append, HDN.out]; rfl, by omega, HI5.out, B5.out, by omega, g0, g1⟩
            case measure => simp [intOf] <;> omega
end Go.Proofs.Ytopodhcgfmpphaa
