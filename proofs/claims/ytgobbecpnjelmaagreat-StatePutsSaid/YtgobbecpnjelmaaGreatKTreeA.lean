/-
  TreeA: Walk of tree.Is: whether nodes are a tree.
-/
import Derived.Test.YtgobbecpnjelmaaGreatJ0b
import Derived.Test.YtgobbecpnjelmaaGreatJ0a
import Derived.Deep.DrawnRows
import Derived.BigRegion
namespace Go.Proofs.YtgobbecpnjelmaaGreat
open Go.RowKit

/-- What is known of the parts behind a place: where each ends and how high it is. -/
def PartsOk (t : TreeP) (k : Nat) (xs : List Value) : Prop :=
 ∀ j, k ≤ j → j < t.nodes.length → ∃ e h s, Sub t j e h s ∧ xs[j * 2]? = some (.int .i64 (e : Nat)) ∧ xs[j * 2 + 1]? = some (.int .i64 (h : Nat))

theorem PartsOk.set {t : TreeP} {k : Nat} {xs : List Value} (h : PartsOk t (k + 1) xs) {e g : Nat} {s : Int} (q : Sub t k e g s) (hk : k * 2 + 1 < xs.length) :
  PartsOk t k ((xs.set (k * 2) (.int .i64 (e : Nat))).set (k * 2 + 1) (.int .i64 (g : Nat))) := by
 intro j h1 h2
 rcases Nat.lt_or_ge k j with h3 | h3
 ·obtain ⟨e', h', s', q', g1, g2⟩ := h j h3 h2
  refine ⟨e', h', s', q', ?_, ?_⟩
  ·rw [List.getElem?_set_ne (by omega), List.getElem?_set_ne (by omega), g1]
  ·rw [List.getElem?_set_ne (by omega), List.getElem?_set_ne (by omega), g2]
 ·obtain rfl : j = k := by omega
  refine ⟨e, g, s, q, ?_, ?_⟩
  ·rw [List.getElem?_set_ne (by omega), List.getElem?_set_self (by omega)]
  ·rw [List.getElem?_set_self (by simp; omega)]

theorem eiPart : EI Tryz.prog 160 (.agg #[.int .i64 0, .int .i64 0]) 2 16 := .of rJ rfl (by decide) (by decide)


theorem part_len {n : Nat} {xs : List Value} {W : World} {g : Nat} {e : TypeId} {base : Nat} {cap : Nat} (h : W.ownsRow base e 2 (.slice (some ⟨g, 0, none⟩) n cap) n xs) : xs.length = n * 2 := h.1

set_option maxRecDepth 100000 in
set_option maxHeartbeats 4000000 in
/-- The loop over the nodes. -/
theorem tis_any (v : Value) (t : TreeP) (w : World) (h : TreeR w v t) :
  Calls Tryz.prog 131 #[v] w fun e w' => e = .returned (.bool (treeB t)) ∧ Below w.heap.size w w' := by
 obtain ⟨nv, rfl, ad, cc, rfl, _, _, q3, h⟩ := h
 have HN := hH h
 obtain ⟨B, hB⟩ : ∃ B, treeB t = B := ⟨_, rfl⟩
 rw [hB]
 have HB := hH hB
 clear h hB
 obtain ⟨n, hn⟩ : ∃ n, t.nodes.length = n := ⟨_, rfl⟩
 rw [hn] at q3 ⊢
 have HL := hH hn
 clear hn
 by_cases h1 : 1 ≤ t.dim
 ·by_cases h2 : t.dim ≤ 8
  ·rcases Nat.eq_zero_or_pos n with h3 | h3
   ·subst h3
    have G := hH (show B = false by rw [← HB.out, treeB_false]; intro h; have := h.len; have := HL.out; omega)
    generalize t.dim = dim at *
    go_enter Tryz.func131, Tryz.ntmps131
    go_wp2_with fail
    go_ret
    exact ⟨by rw [G.out]; rfl, bw⟩
   ·by_cases h4 : n ≤ 127
    ·obtain ⟨r, hr⟩ := getElem?_ex (l := t.nodes) (k := 0) (by rw [HL.out]; omega)
     obtain ⟨b, o, rfl, hb, hnode⟩ := HN.out 0 r hr
     have HN2 := hH (show ∀ i nd, t.nodes[i]? = some nd → NodeAt w b (o + i * 5) nd from fun i nd hi => by
      obtain ⟨b', o', e, _, hc⟩ := HN.out i nd hi
      injection e with e
      injection e with e1 e2 e3
      subst e1 e2
      exact hc)
     obtain ⟨_, _, _, _, _, _, _, c4⟩ := hnode.val
     rw [Nat.zero_mul, Nat.add_zero] at c4
     have HR := hH hr
     obtain ⟨s0, hs0⟩ : ∃ s0, r.size = s0 := ⟨_, rfl⟩
     rw [hs0] at c4
     have HS0 := hH hs0
     have i1 : (0 : Int) < n := by omega
     have i2 : (n : Int) ≤ 127 := by omega
     have i3 : ((n : Int) == 0) = false := by simp; omega
     clear hs0 hr hnode
     by_cases h5 : 1 ≤ s0
     ·by_cases h6 : s0 ≤ 64
      ·have HD1 := hH h1
       have HD2 := hH h2
       obtain ⟨D, hD⟩ : ∃ D, t.dim = D := ⟨_, rfl⟩
       have HD := hH hD
       rw [hD] at h1 h2 ⊢
       clear hD
       go_enter Tryz.func131, Tryz.ntmps131
       go_wp2_with (at_make; go_must (refine mkfull rfl _ _ 157 rfl Tryz.underlying157 eiPart (w.heap.size + 1) n (by rfl) (by rfl) (by rfl) (by rfl) (by omega) (by simp) ?_))
       intro w2 hown hb2 _
       have c0 : w2.cell? ⟨w.heap.size, 0, none⟩ = some (.int .i64 D) := (hb2.cell (p := ⟨w.heap.size, 0, none⟩) (by simp)).trans (by go_simp)
       have c1 : w2.cell? ⟨w.heap.size, 1, none⟩ = some (.slice (some ⟨b, o, none⟩) n cc) := (hb2.cell (p := ⟨w.heap.size, 1, none⟩) (by simp)).trans (by go_simp)
       have hz2 : w.heap.size + 1 ≤ w2.heap.size := by have := hb2.size; simp at this; omega
       have BW := hH (show Below w.heap.size w w2 from below_tr bw (hb2.mono (by omega)))
       have c5 : w2.cell? ⟨b, o + 4, none⟩ = some (.int .i64 s0) := (BW.out.cell (p := ⟨b, o + 4, none⟩) hb).trans c4
       clear c4 hb2
       go_wp2_with fail
       go_loopw [5, 6, 7, 8, 9, 10] (fun i _ _ _ _ _ wr => ∃ (k : Nat) (xs : List Value), i = .int .i64 ((k : Int) - 1) ∧ k ≤ n ∧ wr.ownsRow (w.heap.size + 1) 160 2 (.slice (some ⟨w.heap.size + 1, 0, none⟩) n n) n xs ∧ PartsOk t k xs ∧ Below (w.heap.size + 1) w2 wr) (fun i _ _ _ _ _ _ => (intOf i + 1).toNat)
       case atStart => exact ⟨n, _, rfl, by omega, hown, fun j _ _ => (by have := HL.out; omega), Below.refl _ _⟩
       case round =>
        obtain ⟨k, xs, rfl, hk, hown, hps, hbr⟩ := hrel
        have HPS := hH hps
        have HOWN := hH hown
        have HBR := hH hbr
        have hz3 := hbr.size
        have d0 := (hbr.cell (p := ⟨w.heap.size, 0, none⟩) (by simp)).trans c0
        have d1 := (hbr.cell (p := ⟨w.heap.size, 1, none⟩) (by simp)).trans c1
        have hbn : b < w.heap.size + 1 := by omega
        have hbz : b < wr.heap.size := by omega
        clear hps hown hbr
        rcases Nat.eq_zero_or_pos k with hk0 | hk0
        ·subst hk0
         rw [Int.natCast_zero]
         obtain ⟨E, g, s, hsub, hx0, hx1⟩ := HPS.out 0 (by omega) (by rw [HL.out]; omega)
         have q0 := (HOWN.out.cellAt (0 * 2) (by omega)).trans hx0
         have q1 := (HOWN.out.cellAt (0 * 2 + 1) (by omega)).trans hx1
         rw [Nat.zero_mul] at q0 q1
         rw [Nat.zero_add] at q1
         have HIT := hH (isTree_of HD1.out HD2.out HR.out (by rw [HS0.out]; exact h6) hsub)
         have HG := hH (fun W => log_any s0 W (by unfold Ok64; omega))
         have hgb : (g : Int) ≤ 127 := by have := hsub.high; have := hsub.lt; have := HL.out; omega
         have i6 : (0 : Int) ≤ ((0 : Nat) : Int) := by omega
         clear hsub hx0 hx1
         by_cases a1 : E = n
         ·subst a1
          have j1 : ((E : Int) == (E : Int)) = true := by simp
          have J2 := hH (show B = decide (g ≤ logI s0) by
           rw [← HB.out, Bool.eq_iff_iff, treeB_true, HIT.out, decide_eq_true_eq, HL.out, HS0.out]
           exact ⟨fun h => h.2, fun h => ⟨rfl, h⟩⟩)
          have e1 : logI s0 = Lib.bitLen (s0.toNat - 1) := rfl
          rw [e1] at J2
          generalize Lib.bitLen (s0.toNat - 1) = lg at *
          clear e1
          go_wp2_with fail
          go_quiet ((first | (go_at_call 142; exact quiet_left (HG.out _))))
          go_wp2_with fail
          go_ret
          exact ⟨ret_bool J2.out.symm, by (repeat (first | with_reducible exact Below.refl _ _ | with_reducible refine Bs ?_ | with_reducible refine Ba ?_ | with_reducible refine Bd ?_ | with_reducible refine Bn ?_ | with_reducible refine Bt HBR.out ?_ | with_reducible refine Bt BW.out ?_))⟩
         ·have G := hH (show B = false by rw [← HB.out, treeB_false, HIT.out, HL.out]; exact fun h => a1 h.1)
          have J1 := hH (show ((E : Int) == (n : Int)) = false by simp; omega)
          clear a1
          go_wp2_with fail
          have j1 := J1.out
          go_quiet (fail)
          go_wp2_with fail
          go_ret
          exact ⟨by rw [G.out]; rfl, by (repeat (first | with_reducible exact Below.refl _ _ | with_reducible refine Bs ?_ | with_reducible refine Ba ?_ | with_reducible refine Bd ?_ | with_reducible refine Bn ?_ | with_reducible refine Bt HBR.out ?_ | with_reducible refine Bt BW.out ?_))⟩
        ·obtain ⟨k, rfl⟩ : ∃ j, k = j + 1 := ⟨k - 1, by omega⟩
         rw [show (((k + 1 : Nat) : Int) - 1) = (k : Int) by omega]
         obtain ⟨nd, hnd⟩ := getElem?_ex (l := t.nodes) (k := k) (by rw [HL.out]; omega)
         have BWR := hH (show Below w.heap.size w wr from below_tr BW.out (HBR.out.mono (by omega)))
         have hat := (HN2.out k nd hnd).below hb BWR.out
         have HND := hH hnd
         obtain ⟨ca, ccc, hci, e0, e1, e2, e3, e4⟩ := hat.val
         have HCI := hH hci
         have i4 : (0 : Int) ≤ k := by omega
         have i5 : (k : Int) < n := by omega
         have hln : nd.coef.length ≤ 140737488351232 := by obtain ⟨_, _, _, _, _, g, _⟩ := hci; exact g
         clear hnd hat hci
         cases hlf : leafB nd with
         | true =>
          have HLF := hH (fun W (hW : NodeV W (.agg #[.slice ca nd.coef.length ccc, .int .i64 nd.at_, .int .i64 nd.left, .int .i64 nd.right, .int .i64 nd.size]) nd) => hlf ▸ tleaf_any _ nd W hW)
          have QS := hH (Sub.leaf (t := t) HND.out hlf)
          have HCN := hH (fun W (hW : Ints .i64 W (.slice ca nd.coef.length ccc) nd.coef) => (show NodeV W (.agg #[.slice ca nd.coef.length ccc, .int .i64 nd.at_, .int .i64 nd.left, .int .i64 nd.right, .int .i64 nd.size]) nd from ⟨_, rfl, hW⟩))
          generalize nd.at_ = xat at *
          generalize nd.left = xl at *
          generalize nd.right = xr at *
          generalize nd.size = xs' at *
          generalize nd.coef.length = cl at *
          clear hlf
          go_wp2_with fail
          refine (HLF.out _ (HCN.out _ (HCI.out.below bw))).mono ?_
          rintro e w3 ⟨rfl, b3⟩
          have B3 := hH (show Below wr.heap.size wr w3 from below_tr bw (b3.mono (by simp)))
          have own3 := own_keep HOWN.out (fun g _ hg => B3.out.block g hg)
          have hxl := part_len own3
          obtain ⟨u0, hu0⟩ := getElem?_ex (l := xs) (k := k * 2) (by omega)
          obtain ⟨u1, hu1⟩ := getElem?_ex (l := xs) (k := k * 2 + 1) (by omega)
          have p0 := (own3.cellAt (k * 2) (by omega)).trans hu0
          have p1 := (own3.cellAt (k * 2 + 1) (by omega)).trans hu1
          have r0 := own3.frozenAt (k * 2)
          have r1 := own3.frozenAt (k * 2 + 1)
          have OWN3 := hH own3
          have HXL := hH hxl
          have hz4 := B3.out.size
          clear own3 hxl hu0 hu1 b3
          go_wp2_with fail
          go_roundw
          case rel => exact ⟨k, _, by go_num, by omega, ((OWN3.out.stored (k * 2) _).1.stored (k * 2 + 1) _).1, HPS.out.set QS.out (by rw [HXL.out]; omega), by (repeat (first | with_reducible exact Below.refl _ _ | with_reducible refine Bs ?_ | with_reducible refine Ba ?_ | with_reducible refine Bd ?_ | with_reducible refine Bn ?_ | with_reducible refine Bt B3.out ?_ | with_reducible refine Bt HBR.out ?_))⟩
          case measure => simp [intOf] <;> omega
         | false =>
          have HLF := hH (fun W (hW : NodeV W (.agg #[.slice ca nd.coef.length ccc, .int .i64 nd.at_, .int .i64 nd.left, .int .i64 nd.right, .int .i64 nd.size]) nd) => hlf ▸ tleaf_any _ nd W hW)
          have HCN := hH (fun W (hW : Ints .i64 W (.slice ca nd.coef.length ccc) nd.coef) => (show NodeV W (.agg #[.slice ca nd.coef.length ccc, .int .i64 nd.at_, .int .i64 nd.left, .int .i64 nd.right, .int .i64 nd.size]) nd from ⟨_, rfl, hW⟩))
          have HCU := hH (fun W (hW : Ints .i64 W (.slice ca nd.coef.length ccc) nd.coef) => cis_any _ nd.coef nd.at_ D W hW)
          have KK := hH (show IsTree t → ∃ m e a b' x y, nd.left = (k : Int) + 1 ∧ cutB nd.coef nd.at_ D = true ∧ Sub t (k + 1) m a x ∧ nd.right = (m : Int) ∧ Sub t m e b' y ∧ nd.size = x + y ∧ x ≤ s0 ∧ y ≤ s0 from fun h => by
           obtain ⟨m, e, a, b', x, y, g1, g2, g3, g4, g5, g6, g7⟩ := h.inner HND.out hlf
           rw [HD.out] at g2
           have g8 := g7 _ HR.out
           rw [HS0.out] at g8
           exact ⟨m, e, a, b', x, y, g1, g2, g3, g4, g5, g6, g8.1, g8.2⟩)
          have QS := hH (show nd.left = (k : Int) + 1 → cutB nd.coef nd.at_ D = true → ∀ {m e a b' : Nat} {x y : Int}, Sub t (k + 1) m a x → nd.right = (m : Int) → Sub t m e b' y → nd.size = x + y → Sub t k e (1 + max a b') nd.size from fun g1 g2 m e a b' x y g3 g4 g5 g6 =>
           .node HND.out g1 (by rw [HD.out]; exact g2) g3 g4 g5 g6)
          obtain ⟨CU, hcu⟩ : ∃ CU, cutB nd.coef nd.at_ D = CU := ⟨_, rfl⟩
          rw [hcu] at HCU KK QS
          generalize nd.at_ = xat at *
          generalize nd.left = xl at *
          generalize nd.right = xr at *
          generalize nd.size = xz at *
          generalize nd.coef.length = cl at *
          clear hlf hcu
          go_wp2_with fail
          refine (HLF.out _ (HCN.out _ (HCI.out.below bw))).mono ?_
          rintro e w3 ⟨rfl, b3⟩
          have B3 := hH (show Below wr.heap.size wr w3 from below_tr bw (b3.mono (by simp)))
          have own3 := own_keep HOWN.out (fun g _ hg => B3.out.block g hg)
          have hxl := part_len own3
          have OWN3 := hH own3
          have HXL := hH hxl
          have hz4 := b3.size
          have y0 : w3.cell? ⟨wr.heap.size, 0, none⟩ = some (.slice ca cl ccc) := (b3.cell mJ).trans (by go_simp)
          have y1 : w3.cell? ⟨wr.heap.size, 1, none⟩ = some (.int .i64 xat) := (b3.cell mJ).trans (by go_simp)
          have y2 : w3.cell? ⟨wr.heap.size, 2, none⟩ = some (.int .i64 xl) := (b3.cell mJ).trans (by go_simp)
          have y3 : w3.cell? ⟨wr.heap.size, 3, none⟩ = some (.int .i64 xr) := (b3.cell mJ).trans (by go_simp)
          have y4 : w3.cell? ⟨wr.heap.size, 4, none⟩ = some (.int .i64 xz) := (b3.cell mJ).trans (by go_simp)
          have d0 := (B3.out.cell (p := ⟨w.heap.size, 0, none⟩) (by simp; omega)).trans d0
          have d1 := (B3.out.cell (p := ⟨w.heap.size, 1, none⟩) (by simp; omega)).trans d1
          simp at hz4
          clear own3 hxl b3
          by_cases a1 : xl = (k : Int) + 1
          ·obtain ⟨p, hp⟩ : ∃ p, k + 1 = p := ⟨_, rfl⟩
           obtain rfl : xl = (p : Int) := by omega
           have HP := hH hp
           rw [hp] at KK QS
           have J1 := hH (show ((p : Int) != (k : Int) + 1) = false by simp; omega)
           have i8 : k + 1 ≤ p := by omega
           clear a1 hp
           by_cases a2 : p < n
           ·have J2 := hH (show decide (n ≤ p) = false by simp; omega)
            obtain ⟨E, g, x, hsub, hx0, hx1⟩ := HPS.out p (by omega) (by rw [HL.out]; exact a2)
            have HSUB := hH hsub
            have q0 := (OWN3.out.cellAt (p * 2) (by omega)).trans hx0
            have q1 := (OWN3.out.cellAt (p * 2 + 1) (by omega)).trans hx1
            have i6 : (0 : Int) ≤ p := by omega
            have i7 : (p : Int) < n := by omega
            clear hsub hx0 hx1
            by_cases a3 : xr = (E : Int)
            ·subst a3
             have J3 := hH (show ((E : Int) != (E : Int)) = false by simp)
             by_cases a4 : E < n
             ·have J4 := hH (show decide (n ≤ E) = false by simp; omega)
              cases CU with
              | false =>
               have G := hH (show B = false by rw [← HB.out, treeB_false]; intro h; obtain ⟨m, e, a, b', x, y, g1, g2, _⟩ := KK.out h; cases g2)
               go_wp2_with fail
               have j1 := J1.out
               have j2 := J2.out
               have j3 := J3.out
               have j4 := J4.out
               refine wp_region_tail_quiet 37 rJ rJ ?_; simp only [List.take_succ_cons, List.take_zero, List.drop_succ_cons, List.drop_zero]; (repeat (go_big_quiet_step (fail))); refine wpQuiet_nil ?_
               go_wp2_with (go_at_call 141; go_must (with_reducible refine (HCU.out _ ((HCI.out.below B3.out).below bw)).mono ?_))
               rintro e w4 ⟨rfl, b4⟩
               have B4 := hH (show Below w3.heap.size w3 w4 from below_tr bw (b4.mono mJ))
               clear b4
               go_wp2_with fail
               go_ret
               exact ⟨by rw [G.out]; rfl, by (repeat (first | with_reducible exact Below.refl _ _ | with_reducible refine Bs ?_ | with_reducible refine Ba ?_ | with_reducible refine Bd ?_ | with_reducible refine Bn ?_ | with_reducible refine Bt B4.out ?_ | with_reducible refine Bt B3.out ?_ | with_reducible refine Bt HBR.out ?_ | with_reducible refine Bt BW.out ?_))⟩
              | true =>
               obtain ⟨E2, g2, y, hsub2, hy0, hy1⟩ := HPS.out E (by have := HSUB.out.lt; have := HP.out; omega) (by rw [HL.out]; exact a4)
               have HSUB2 := hH hsub2
               have q2 := (OWN3.out.cellAt (E * 2) (by omega)).trans hy0
               have q3 := (OWN3.out.cellAt (E * 2 + 1) (by omega)).trans hy1
               obtain ⟨nx, hnx, hnxs⟩ := HSUB.out.at_
               obtain ⟨ny, hny, hnys⟩ := hsub2.at_
               obtain ⟨_, _, _, _, _, _, _, k4⟩ := (HN2.out p nx hnx).val
               obtain ⟨_, _, _, _, _, _, _, l4⟩ := (HN2.out E ny hny).val
               rw [hnxs] at k4
               rw [hnys] at l4
               have x1 := HSUB.out.pos
               have y1' := hsub2.pos
               have i8 : (0 : Int) ≤ E := by omega
               have i9 : (E : Int) < n := by omega
               clear hsub2 hy0 hy1 hnx hny hnxs hnys
               go_wp2_with fail
               have j1 := J1.out
               have j2 := J2.out
               have j3 := J3.out
               have j4 := J4.out
               refine wp_region_tail_quiet 37 rJ rJ ?_; simp only [List.take_succ_cons, List.take_zero, List.drop_succ_cons, List.drop_zero]; (repeat (go_big_quiet_step (fail))); refine wpQuiet_nil ?_
               go_wp2_with (go_at_call 141; go_must (with_reducible refine (HCU.out _ ((HCI.out.below B3.out).below bw)).mono ?_))
               rintro e w4 ⟨rfl, b4⟩
               have B4 := hH (show Below w3.heap.size w3 w4 from below_tr bw (b4.mono mJ))
               have BW4 := hH (show Below w.heap.size w w4 from below_tr (by (repeat (first | with_reducible exact Below.refl _ _ | with_reducible refine Bs ?_ | with_reducible refine Ba ?_ | with_reducible refine Bd ?_ | with_reducible refine Bn ?_ | with_reducible refine Bt B3.out ?_ | with_reducible refine Bt HBR.out ?_ | with_reducible refine Bt BW.out ?_))) (B4.out.mono (by have := B3.out.size; omega)))
               have own4 := own_keep OWN3.out (fun g _ hg => B4.out.block g hg)
               have OWN4 := hH own4
               have z0 := (B4.out.cell (p := ⟨wr.heap.size, 0, none⟩) mJ).trans y0
               have z1 := (B4.out.cell (p := ⟨wr.heap.size, 1, none⟩) mJ).trans y1
               have z2 := (B4.out.cell (p := ⟨wr.heap.size, 2, none⟩) mJ).trans y2
               have z3 := (B4.out.cell (p := ⟨wr.heap.size, 3, none⟩) mJ).trans y3
               have z4 := (B4.out.cell (p := ⟨wr.heap.size, 4, none⟩) mJ).trans y4
               have z5 := (B4.out.cell (p := ⟨w.heap.size, 0, none⟩) mJ).trans d0
               have z6 := (B4.out.cell (p := ⟨w.heap.size, 1, none⟩) mJ).trans d1
               have z7 := (B4.out.cell (p := ⟨w.heap.size + 1, p * 2, none⟩) mJ).trans q0
               have z8 := (B4.out.cell (p := ⟨w.heap.size + 1, p * 2 + 1, none⟩) mJ).trans q1
               have z9 := (B4.out.cell (p := ⟨w.heap.size + 1, E * 2, none⟩) mJ).trans q2
               have z10 := (B4.out.cell (p := ⟨w.heap.size + 1, E * 2 + 1, none⟩) mJ).trans q3
               have z11 := (BW4.out.cell (p := ⟨b, o + p * 5 + 4, none⟩) hb).trans k4
               have z12 := (BW4.out.cell (p := ⟨b, o + E * 5 + 4, none⟩) hb).trans l4
               have hz5 := B4.out.size
               clear y0 y1 y2 y3 y4 d0 d1 q0 q1 q2 q3 k4 l4 b4 own4
               by_cases a7 : x ≤ s0
               ·by_cases a8 : y ≤ s0
                ·by_cases a9 : xz = x + y
                 ·subst a9
                  go_wp2_with fail
                  go_quiet (fail)
                  go_wp2_with fail
                  obtain ⟨W5, hW5⟩ : ∃ W5, W5 = w4.drewN nq := ⟨_, rfl⟩
                  have t0 : W5.cell? ⟨wr.heap.size, 2, none⟩ = some (.int .i64 p) := by rw [hW5]; exact z2
                  have t1 : W5.cell? ⟨wr.heap.size, 3, none⟩ = some (.int .i64 E) := by rw [hW5]; exact z3
                  have t2 : W5.cell? ⟨w.heap.size + 1, p * 2, none⟩ = some (.int .i64 E) := by rw [hW5]; exact z7
                  have t3 : W5.cell? ⟨w.heap.size + 1, p * 2 + 1, none⟩ = some (.int .i64 g) := by rw [hW5]; exact z8
                  have t4 : W5.cell? ⟨w.heap.size + 1, E * 2, none⟩ = some (.int .i64 E2) := by rw [hW5]; exact z9
                  have t5 : W5.cell? ⟨w.heap.size + 1, E * 2 + 1, none⟩ = some (.int .i64 g2) := by rw [hW5]; exact z10
                  have OWN5 := hH (show W5.ownsRow _ _ _ _ _ _ from by rw [hW5]; exact OWN4.out)
                  have BW5 := hH (show Below (w.heap.size + 1) w2 W5 from by rw [hW5]; (repeat (first | with_reducible exact Below.refl _ _ | with_reducible refine Bs ?_ | with_reducible refine Ba ?_ | with_reducible refine Bd ?_ | with_reducible refine Bn ?_ | with_reducible refine Bt B4.out ?_ | with_reducible refine Bt B3.out ?_ | with_reducible refine Bt HBR.out ?_)))
                  have hz6 : w3.heap.size ≤ W5.heap.size := by rw [hW5]; exact hz5
                  rw [← hW5]
                  clear z0 z1 z2 z3 z4 z5 z6 z7 z8 z9 z10 z11 z12 hW5
                  have lt0 : wr.heap.size < W5.heap.size := by omega
                  have lt0b : wr.heap.size < W5.heap.size + 1 := by omega
                  have ne0 : wr.heap.size ≠ W5.heap.size := by omega
                  have ne0b : wr.heap.size ≠ W5.heap.size + 1 := by omega
                  have ne0c : W5.heap.size ≠ wr.heap.size := by omega
                  have ne0d : W5.heap.size + 1 ≠ wr.heap.size := by omega
                  have lt1 : w.heap.size + 1 < W5.heap.size := by omega
                  have lt1b : w.heap.size + 1 < W5.heap.size + 1 := by omega
                  have ne1 : w.heap.size + 1 ≠ W5.heap.size := by omega
                  have ne1b : w.heap.size + 1 ≠ W5.heap.size + 1 := by omega
                  have ne1c : W5.heap.size ≠ w.heap.size + 1 := by omega
                  have ne1d : W5.heap.size + 1 ≠ w.heap.size + 1 := by omega
                  have hxl5 := part_len OWN5.out
                  obtain ⟨u0, hu0⟩ := getElem?_ex (l := xs) (k := k * 2) (by omega)
                  obtain ⟨u1, hu1⟩ := getElem?_ex (l := xs) (k := k * 2 + 1) (by omega)
                  have t6 := (OWN5.out.cellAt (k * 2) (by omega)).trans hu0
                  have t7 := (OWN5.out.cellAt (k * 2 + 1) (by omega)).trans hu1
                  have t8 := OWN5.out.frozenAt (k * 2)
                  have t9 := OWN5.out.frozenAt (k * 2 + 1)
                  have hg1 : g ≤ 127 := by have := HSUB.out.high; have := HSUB.out.lt; have := HL.out; omega
                  have hg2 : g2 ≤ 127 := by have := HSUB2.out.high; have := HSUB2.out.lt; have := HL.out; omega
                  have HMX := hH (show 1 + max (g : Int) (g2 : Int) = ((1 + max g g2 : Nat) : Int) by omega)
                  have QQ := hH (QS.out (by have := HP.out; omega) trivial HSUB.out rfl HSUB2.out rfl)
                  clear hu0 hu1 hxl5
                  go_region
                  all_goals
                   go_wp2_with fail
                   go_roundw
                   case rel =>
                    refine ⟨k, (xs.set (k * 2) (.int .i64 (E2 : Nat))).set (k * 2 + 1) (.int .i64 ((1 + max g g2 : Nat) : Int)), by go_num, by omega, ?_, HPS.out.set QQ.out (by rw [HXL.out]; omega), bx BW5.out⟩
                    rw [HMX.out]
                    exact ((((OWN5.out.stored (k * 2) _).1.stored (k * 2 + 1) _).1.alloc _).alloc _).drew
                   case measure => simp [intOf] <;> omega
                 ·have G := hH (show B = false by rw [← HB.out, treeB_false]; intro h; obtain ⟨m, e, a, b', x', y', g1, g2, g3, g4, g5, g6, g7, g8⟩ := KK.out h; have q1 := HSUB.out.same g3; obtain rfl : m = E := (by omega); have q2 := HSUB2.out.same g5; omega)
                  have j5 : (xz != x + y) = true := by simp [a9]
                  clear a9
                  go_wp2_with fail
                  go_quiet (fail)
                  go_wp2_with fail
                  go_ret
                  exact ⟨by rw [G.out]; rfl, by (repeat (first | with_reducible exact Below.refl _ _ | with_reducible refine Bs ?_ | with_reducible refine Ba ?_ | with_reducible refine Bd ?_ | with_reducible refine Bn ?_ | with_reducible refine Bt B4.out ?_ | with_reducible refine Bt B3.out ?_ | with_reducible refine Bt HBR.out ?_ | with_reducible refine Bt BW.out ?_))⟩
                ·have G := hH (show B = false by rw [← HB.out, treeB_false]; intro h; obtain ⟨m, e, a, b', x', y', g1, g2, g3, g4, g5, g6, g7, g8⟩ := KK.out h; have q1 := HSUB.out.same g3; obtain rfl : m = E := (by omega); have q2 := HSUB2.out.same g5; omega)
                 go_wp2_with fail
                 go_quiet (fail)
                 go_wp2_with fail
                 go_ret
                 exact ⟨by rw [G.out]; rfl, by (repeat (first | with_reducible exact Below.refl _ _ | with_reducible refine Bs ?_ | with_reducible refine Ba ?_ | with_reducible refine Bd ?_ | with_reducible refine Bn ?_ | with_reducible refine Bt B4.out ?_ | with_reducible refine Bt B3.out ?_ | with_reducible refine Bt HBR.out ?_ | with_reducible refine Bt BW.out ?_))⟩
               ·have G := hH (show B = false by rw [← HB.out, treeB_false]; intro h; obtain ⟨m, e, a, b', x', y', g1, g2, g3, g4, g5, g6, g7, g8⟩ := KK.out h; have q1 := HSUB.out.same g3; omega)
                go_wp2_with fail
                go_quiet (fail)
                go_wp2_with fail
                go_ret
                exact ⟨by rw [G.out]; rfl, by (repeat (first | with_reducible exact Below.refl _ _ | with_reducible refine Bs ?_ | with_reducible refine Ba ?_ | with_reducible refine Bd ?_ | with_reducible refine Bn ?_ | with_reducible refine Bt B4.out ?_ | with_reducible refine Bt B3.out ?_ | with_reducible refine Bt HBR.out ?_ | with_reducible refine Bt BW.out ?_))⟩
             ·have G := hH (show B = false by rw [← HB.out, treeB_false]; intro h; obtain ⟨m, e, a, b', x, y, g1, g2, g3, g4, g5, g6⟩ := KK.out h; have := g5.lt; have := HL.out; omega)
              have J4 := hH (show decide (n ≤ E) = true by simp; omega)
              go_wp2_with fail
              have j1 := J1.out
              have j2 := J2.out
              have j3 := J3.out
              have j4 := J4.out
              go_quiet (fail)
              go_wp2_with fail
              go_ret
              exact ⟨by rw [G.out]; rfl, by (repeat (first | with_reducible exact Below.refl _ _ | with_reducible refine Bs ?_ | with_reducible refine Ba ?_ | with_reducible refine Bd ?_ | with_reducible refine Bn ?_ | with_reducible refine Bt B3.out ?_ | with_reducible refine Bt HBR.out ?_ | with_reducible refine Bt BW.out ?_))⟩
            ·have G := hH (show B = false by rw [← HB.out, treeB_false]; intro h; obtain ⟨m, e, a, b', x, y, g1, g2, g3, g4, g5, g6⟩ := KK.out h; have := (g3.same HSUB.out).1; omega)
             have J3 := hH (show (xr != (E : Int)) = true by simp [a3])
             clear a3
             go_wp2_with fail
             have j1 := J1.out
             have j2 := J2.out
             have j3 := J3.out
             go_quiet (fail)
             go_wp2_with fail
             go_ret
             exact ⟨by rw [G.out]; rfl, by (repeat (first | with_reducible exact Below.refl _ _ | with_reducible refine Bs ?_ | with_reducible refine Ba ?_ | with_reducible refine Bd ?_ | with_reducible refine Bn ?_ | with_reducible refine Bt B3.out ?_ | with_reducible refine Bt HBR.out ?_ | with_reducible refine Bt BW.out ?_))⟩
           ·have G := hH (show B = false by rw [← HB.out, treeB_false]; intro h; obtain ⟨m, e, a, b', x, y, g1, g2, g3, _⟩ := KK.out h; have := g3.lt; have := HL.out; omega)
            have J2 := hH (show decide (n ≤ p) = true by simp; omega)
            go_wp2_with fail
            have j1 := J1.out
            have j2 := J2.out
            go_quiet (fail)
            go_wp2_with fail
            go_ret
            exact ⟨by rw [G.out]; rfl, by (repeat (first | with_reducible exact Below.refl _ _ | with_reducible refine Bs ?_ | with_reducible refine Ba ?_ | with_reducible refine Bd ?_ | with_reducible refine Bn ?_ | with_reducible refine Bt B3.out ?_ | with_reducible refine Bt HBR.out ?_ | with_reducible refine Bt BW.out ?_))⟩
          ·have G := hH (show B = false by rw [← HB.out, treeB_false]; intro h; obtain ⟨m, e, a, b', x, y, g1, _⟩ := KK.out h; exact a1 g1)
           have j1 : (xl != (k : Int) + 1) = true := by simp [a1]
           clear a1
           go_wp2_with fail
           go_quiet (fail)
           go_wp2_with fail
           go_ret
           exact ⟨by rw [G.out]; rfl, by (repeat (first | with_reducible exact Below.refl _ _ | with_reducible refine Bs ?_ | with_reducible refine Ba ?_ | with_reducible refine Bd ?_ | with_reducible refine Bn ?_ | with_reducible refine Bt B3.out ?_ | with_reducible refine Bt HBR.out ?_ | with_reducible refine Bt BW.out ?_))⟩
      ·have G := hH (show B = false by rw [← HB.out, treeB_false]; intro h; have := h.root HR.out; have := HS0.out; omega)
       generalize t.dim = dim at *
       go_enter Tryz.func131, Tryz.ntmps131
       go_wp2_with fail
       go_ret
       exact ⟨by rw [G.out]; rfl, bw⟩
     ·have G := hH (show B = false by rw [← HB.out, treeB_false]; intro h; have := h.root HR.out; have := HS0.out; omega)
      generalize t.dim = dim at *
      go_enter Tryz.func131, Tryz.ntmps131
      go_wp2_with fail
      go_ret
      exact ⟨by rw [G.out]; rfl, bw⟩
    ·have G := hH (show B = false by rw [← HB.out, treeB_false]; intro h; have := h.len; have := HL.out; omega)
     have h5 : ((n : Int) == 0) = false := by simp; omega
     have h6 : (127 : Int) < n := by omega
     generalize t.dim = dim at *
     go_enter Tryz.func131, Tryz.ntmps131
     go_wp2_with fail
     go_ret
     exact ⟨by rw [G.out]; rfl, bw⟩
  ·have G := hH (show B = false by rw [← HB.out, treeB_false]; intro h; exact h2 h.2.1)
   generalize t.dim = dim at *
   go_enter Tryz.func131, Tryz.ntmps131
   go_wp2_with fail
   go_ret
   exact ⟨by rw [G.out]; rfl, bw⟩
 ·have G := hH (show B = false by rw [← HB.out, treeB_false]; intro h; exact h1 h.1)
  generalize t.dim = dim at *
  go_enter Tryz.func131, Tryz.ntmps131
  go_wp2_with fail
  go_ret
  exact ⟨by rw [G.out]; rfl, bw⟩
end Go.Proofs.YtgobbecpnjelmaaGreat
