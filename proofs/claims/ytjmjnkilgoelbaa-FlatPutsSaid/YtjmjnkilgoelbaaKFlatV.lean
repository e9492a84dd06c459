/-
  FlatV: Walk of flat's Tree.
-/
import Derived.Test.YtjmjnkilgoelbaaJ7a
namespace Go.Proofs.Ytjmjnkilgoelbaa
open Go.RowKit

set_option maxRecDepth 100000 in
set_option maxHeartbeats 8000000 in
theorem ftree_in {B P : Nat} {l : List TreeP} {vs : List Value} {nv : Value} (j : Nat) (t : TreeP) (w : World) (h : PackAt w B P l vs nv) (hj : l[j]? = some t) :
    Calls Try.prog 66 #[.pointer (some ⟨P, 0, none⟩), .int .i64 j] w fun e w' => ∃ nv', e = .returned (.tuple #[.agg #[.int .i64 (dimL l), nv'], .int .i64 0]) ∧ NodesR w' nv' t.nodes ∧ Below w.heap.size w w' := by
  have hjl := (List.getElem?_eq_some_iff.1 hj).1
  have HC := Lib.hid (fun W (hb : Below w.heap.size w W) => flen_any (h.below hb))
  have HE := Lib.hid (fun W (hb : Below w.heap.size w W) => fend_any (h.below hb) j hjl)
  obtain ⟨v0, v1, v2, v3, v4, v5, v6, rfl⟩ := h.seven
  have hlt := h.fa.lt
  have hmany := h.many
  have hq := h.nodes
  have hcf := h.coefs
  have hT := h.ok t (List.mem_of_getElem? hj)
  have hTl := (treeB_true.1 hT.1).len
  have hdt := treeB_dim hT.1
  obtain ⟨D, hD⟩ : ∃ n : Nat, dimL l = (n : Int) := ⟨(dimL l).toNat, by omega⟩
  have HOK := Lib.hid (show ∀ t ∈ l, treeB t = true ∧ t.dim = (D : Int) from fun t ht => ⟨(h.ok t ht).1, (h.ok t ht).2.trans hD⟩)
  have hD1 : 1 ≤ D ∧ D ≤ 8 := by omega
  have hse := lenTs_take_succ hj
  have hle : lenTs l = lenTs (l.take (j + 1)) + lenTs (l.drop (j + 1)) := by rw [← lenTs_append, List.take_append_drop]
  have hq1 : 1 ≤ lenTs l := by omega
  rw [hD, Int.toNat_natCast] at hcf
  have hcl : 1 ≤ (coefsL l).length := by rw [hcf.1]; exact Nat.mul_pos hq1 hD1.1
  obtain ⟨g0, k0, rfl, hg0, hc0⟩ := rows_some h (k := 0) rfl rfl (by rw [startsL_len]; omega)
  obtain ⟨g1, k1, rfl, hg1, hc1⟩ := rows_some h (k := 1) rfl rfl (by exact hcl)
  obtain ⟨g2, k2, rfl, hg2, hc2⟩ := rows_some h (k := 2) rfl rfl (by rw [atL_len]; exact hq1)
  obtain ⟨g3, k3, rfl, hg3, hc3⟩ := rows_some h (k := 3) rfl rfl (by rw [leftL_len]; exact hq1)
  obtain ⟨g4, k4, rfl, hg4, hc4⟩ := rows_some h (k := 4) rfl rfl (by rw [rightL_len]; exact hq1)
  obtain ⟨g6, k6, rfl, hg6, hc6⟩ := rows_some h (k := 6) rfl rfl (by rw [sizeL_len]; exact hq1)
  have p0 : w.cell? ⟨P, 0, none⟩ = some (.int .i64 (D : Int)) := by rw [← hD]; exact h.fa.c0
  have p1 := (h.fa.cs 0 _ rfl).1
  have p2 := (h.fa.cs 1 _ rfl).1
  have p3 := (h.fa.cs 2 _ rfl).1
  have p4 := (h.fa.cs 3 _ rfl).1
  have p5 := (h.fa.cs 4 _ rfl).1
  have p7 := (h.fa.cs 6 _ rfl).1
  have hk1 : (coefsL l).length ≤ k1 ∧ k1 ≤ 9223372036854775807 := by
    obtain ⟨_, _, e, h1, h2, _⟩ := h.row (j := 1) rfl rfl
    injection e with _ _ e
    subst e
    exact ⟨h1, h2⟩
  rw [startsL_len] at p1
  rw [atL_len] at p3
  rw [leftL_len] at p4
  rw [rightL_len] at p5
  rw [sizeL_len] at p7
  simp only [Nat.zero_add, Nat.reduceAdd] at p1 p2 p3 p4 p5 p7
  have s0 := hc0 j _ (startsL_get l 0 j hjl)
  rw [Nat.zero_add] at s0
  have HC1 := Lib.hid hc1
  have HC2 := Lib.hid hc2
  have HC3 := Lib.hid hc3
  have HC4 := Lib.hid hc4
  have HC6 := Lib.hid hc6
  obtain ⟨s, hs⟩ : ∃ n, lenTs (l.take j) = n := ⟨_, rfl⟩
  obtain ⟨m, hm⟩ : ∃ n, t.nodes.length = n := ⟨_, rfl⟩
  obtain ⟨q, hqq⟩ : ∃ n, lenTs l = n := ⟨_, rfl⟩
  obtain ⟨n, hn⟩ : ∃ n, l.length = n := ⟨_, rfl⟩
  obtain ⟨cl, hcll⟩ : ∃ n, (coefsL l).length = n := ⟨_, rfl⟩
  rw [hse, hs, hm] at HE
  rw [hs, hm] at hse
  rw [hs] at s0
  rw [hqq] at p3 p4 p5 p7 hq hcf hq1 hle
  rw [hn] at HC p1 hjl hmany
  rw [hcll] at p2 hcf hk1 hcl
  rw [hm] at hTl
  rw [hD]
  have HS := Lib.hid hs
  have HM := Lib.hid hm
  have HJ := Lib.hid hj
  have HT := Lib.hid hT.1
  have hsm : s + m ≤ q := by omega
  clear h hc0 hc1 hc2 hc3 hc4 hc6 hT hs hm hqq hn hcll hD hj hle hse hdt
  have hj2 : ¬ (n : Int) ≤ j := by omega
  have hj0 : ¬ (j : Int) < 0 := by omega
  have hj3 : (j : Int) < n := by omega
  have hj5 : ¬ n ≤ j := by omega
  have hj4 : (0 : Int) ≤ j := by omega
  go_enter Try.func66, Try.ntmps66
  go_wp2_with fail
  (with_reducible refine (HC.out _ (by (repeat (first | with_reducible exact Below.refl _ _ | with_reducible refine Bs ?_ | with_reducible refine Ba ?_ | with_reducible refine Bd ?_ | with_reducible refine Bn ?_)))).mono ?_)
  rintro e w1 ⟨rfl, rfl⟩
  go_wp2_with fail
  obtain ⟨U0, hU0⟩ : ∃ U, (w.alloc (.cells #[.int .i64 0, .slice none 0 0] 106)).alloc (.cells #[.int .i64 (D : Int), .slice none 0 0] 106) = U := ⟨_, rfl⟩
  rw [hU0]
  have S0 := Lib.hid (show TreeSt w U0 (D : Int) (.slice none 0 0) [] from by
    rw [← hU0]
    refine ⟨by (repeat (first | with_reducible exact Below.refl _ _ | with_reducible refine Bs ?_ | with_reducible refine Ba ?_ | with_reducible refine Bd ?_ | with_reducible refine Bn ?_)), row_new (by simp), (show Below (w.heap.size + 1) _ _ from by (repeat (first | with_reducible exact Below.refl _ _ | with_reducible refine Bs ?_ | with_reducible refine Ba ?_ | with_reducible refine Bd ?_ | with_reducible refine Bn ?_))).block _ (by omega) |>.trans (row_new (W := w) rfl), World.ownsRow_nil _ _ _ _, fun p hp => by simp at hp⟩)
  clear hU0
  go_loopw [8, 9] (fun i _ wr => ∃ (k : Nat) (tv : Value) (ps : List (NodeP × Value)), i = .int .i64 ((s + k : Nat) : Int) ∧ k ≤ m ∧ ps.map (·.1) = t.nodes.take k ∧ TreeSt w wr (D : Int) tv ps) (fun i _ _ => s + m - (intOf i).toNat)
  case atStart => exact ⟨0, _, [], rfl, by omega, rfl, S0.out⟩
  case round =>
    obtain ⟨k, tv, ps, rfl, hk, hps, hst⟩ := hrel
    have hpl : ps.length = k := by
      have := congrArg List.length hps
      rw [List.length_map, List.length_take, HM.out] at this
      omega
    have SR := Lib.hid hst
    have HPS := Lib.hid hps
    have HPL := Lib.hid hpl
    have hz := hst.bel.size
    have hzT := hst.rT.lt
    obtain ⟨ta, tn, tc, rfl⟩ := own_shape hst.own
    have bx : ∀ (b o : Nat) (v : Value), b < w.heap.size → w.cell? ⟨b, o, none⟩ = some v → wr.cell? ⟨b, o, none⟩ = some v := fun b o v hb hc => (hst.bel.cell (p := ⟨b, o, none⟩) hb).trans hc
    have p0 := bx _ _ _ hlt p0
    have p1 := bx _ _ _ hlt p1
    have p2 := bx _ _ _ hlt p2
    have p3 := bx _ _ _ hlt p3
    have p4 := bx _ _ _ hlt p4
    have p5 := bx _ _ _ hlt p5
    have p7 := bx _ _ _ hlt p7
    have t0 : wr.cell? ⟨w.heap.size + 1, 0, none⟩ = some (.int .i64 (D : Int)) := (hst.rT.cell 0).trans rfl
    have t1 : wr.cell? ⟨w.heap.size + 1, 1, none⟩ = some (.slice ta tn tc) := (hst.rT.cell 1).trans rfl
    have tf1 : wr.frozen? ⟨w.heap.size + 1, 1, none⟩ = false := hst.rT.frozen 1
    have BX := Lib.hid bx
    clear hst hps hpl bx S0
    obtain ⟨i, hi⟩ : ∃ i, s + k = i := ⟨_, rfl⟩
    rw [hi]
    have HI := Lib.hid hi
    clear hi
    by_cases hlt7 : k < m
    · obtain ⟨nd, hnd⟩ := getElem?_ex (l := t.nodes) (k := k) (by rw [HM.out]; exact hlt7)
      have hkl : k < t.nodes.length := (List.getElem?_eq_some_iff.1 hnd).1
      have c6 := BX.out _ _ _ hg6 (HC6.out i nd.size (by rw [← HI.out, ← HS.out]; unfold sizeL; rw [flat_get (fun t => by simp [sizeT]) HJ.out hkl, sizeT, List.getElem?_map, hnd]; rfl))
      have c3 := BX.out _ _ _ hg3 (HC3.out i (leftN s nd) (by rw [← HI.out, ← HS.out, left_get HJ.out hkl, leftT, List.getElem?_map, hnd]; rfl))
      have i1 : (0 : Int) ≤ (i : Int) := by have := HI.out; omega
      have i2 : (i : Int) < (q : Int) := by have := HI.out; omega
      have i3 : (i : Int) < ((s + m : Nat) : Int) := by have := HI.out; omega
      have HTK := Lib.hid (show t.nodes.take (k + 1) = t.nodes.take k ++ [nd] by rw [List.take_add_one, hnd]; rfl)
      have HND := Lib.hid hnd
      have hzP : P < wr.heap.size := by omega
      have hz6 : g6 < wr.heap.size := by omega
      have hz3 : g3 < wr.heap.size := by omega
      have hzN : w.heap.size + 1 ≠ wr.heap.size := by omega
      obtain ⟨sm, hsm2⟩ : ∃ n, s + m = n := ⟨_, rfl⟩
      rw [hsm2] at i3 HE
      clear hnd hkl
      cases hlf : leafB nd with
      | true =>
        obtain ⟨l1, l2, l3, l4, _⟩ := leafB_is hlf
        have e0 : leftN s nd = 0 := by unfold leftN; rw [if_pos l1]
        rw [e0] at c3
        have HRN := Lib.hid (show rowN (nd, .slice none 0 0) = [.slice none 0 0, .int .i64 0, .int .i64 0, .int .i64 0, .int .i64 nd.size] by unfold rowN; rw [l4, l1, l2])
        have HCO := Lib.hid l3
        have HSZ := Lib.hid (rfl : nd.size = nd.size)
        obtain ⟨sz, hsz⟩ : ∃ z, nd.size = z := ⟨_, rfl⟩
        rw [hsz] at c6 HRN
        clear l1 l2 l3 l4 e0 hlf hsz HSZ
        go_wp2_with fail
        (with_reducible refine (HE.out _ (SR.out.bel.trans (by (repeat (first | with_reducible exact Below.refl _ _ | with_reducible refine Bs ?_ | with_reducible refine Ba ?_ | with_reducible refine Bd ?_ | with_reducible refine Bn ?_))))).mono ?_)
        rintro e w2 ⟨rfl, rfl⟩
        go_wp2_with (at_builtin; go_must (refine app1N rfl _ _ 104 rfl Try.underlying104 eiNode (w.heap.size + 1 + 1) (by rfl) (SR.out.own.alloc _) (by rfl) (by simp) rfl (by simp [Value.oneCell']) (by have := HPL.out; omega) (by simp; omega) ?_))
        intro v5' w5 o5 g5' n5
        obtain ⟨a5, n5', c5, rfl⟩ := own_shape o5
        have hno : (Value.slice ta tn tc).ownBlock ≠ some (w.heap.size + 1) := fun e => by have := (SR.out.own.lt _ e).1; omega
        have x1 : w5.cell? ⟨w.heap.size + 1, 1, none⟩ = some (.slice ta tn tc) := (gcell g5' (by first | omega | (simp; done) | (simp; omega)) hno).trans (by go_simp)
        have xf1 : w5.frozen? ⟨w.heap.size + 1, 1, none⟩ = false := (gfroz g5' (by first | omega | (simp; done) | (simp; omega)) hno).trans (((show Below wr.heap.size wr _ from by (repeat (first | with_reducible exact Below.refl _ _ | with_reducible refine Bs ?_ | with_reducible refine Ba ?_ | with_reducible refine Bd ?_ | with_reducible refine Bn ?_))).frozen (p := ⟨w.heap.size + 1, 1, none⟩) hzT).trans tf1)
        have hlz := World.block_lt_of_cell? _ _ x1
        dsimp only at hlz
        have SN := Lib.hid (SR.out.next (n := nd) (cv := .slice none 0 0) (show Below wr.heap.size wr (wr.alloc _) from by (repeat (first | with_reducible exact Below.refl _ _ | with_reducible refine Bs ?_ | with_reducible refine Ba ?_ | with_reducible refine Bd ?_ | with_reducible refine Bn ?_))) (by rw [HCO.out]; exact ints_nil _ _ _ _ (by omega)) (fun g ⟨_, _, _, e⟩ => by cases e) g5' (by rw [HRN.out]; exact o5) n5)
        clear o5 g5' n5 hno
        go_wp2_with fail
        go_roundw
        case rel => exact ⟨k + 1, _, ps ++ [(nd, .slice none 0 0)], by rw [show ((s + (k + 1) : Nat) : Int) = (i : Int) + 1 by have := HI.out; omega], by omega, by rw [List.map_append, HPS.out, HTK.out]; rfl, SN.out⟩
        case measure => (have := HI.out; simp [intOf]; omega)
      | false =>
        obtain ⟨mm, _, _, _, _, _, k1', k2', k3', k4', k5', _⟩ := (treeB_true.1 HT.out).inner HND.out hlf
        have hmm := k5'.lt
        have hmm0 := k3'.lt
        have hl0 : ¬ nd.left = 0 := by omega
        have e0 : leftN s nd = ((i + 1 : Nat) : Int) := by unfold leftN; rw [if_neg hl0, k1', ← HI.out]; omega
        have e1 : rightN s nd = ((s + mm : Nat) : Int) := by unfold rightN; rw [if_neg hl0, k4']; omega
        have hkl : k < t.nodes.length := by rw [HM.out]; exact hlt7
        have c4 := BX.out _ _ _ hg4 (HC4.out i (rightN s nd) (by rw [← HI.out, ← HS.out, right_get HJ.out hkl, rightT, List.getElem?_map, HND.out]; rfl))
        have c2 := BX.out _ _ _ hg2 (HC2.out i nd.at_ (by rw [← HI.out, ← HS.out]; unfold atL; rw [flat_get (fun t => by simp [atT]) HJ.out hkl, atT, List.getElem?_map, HND.out]; rfl))
        rw [e0] at c3
        rw [e1] at c4
        have hpb : partsB nd.coef t.dim = true := by unfold cutB at k2'; simp only [Bool.and_eq_true] at k2'; exact k2'.2
        have hpy := partsB_yes hpb
        rw [(HOK.out t (List.mem_of_getElem? HJ.out)).2] at hpy
        have HCL := Lib.hid (show nd.coef.length = D by have := hpy.2.2.1; omega)
        have hab : i * D + D ≤ cl := by
          rw [hcf.1]
          have h1 := HI.out
          have : (i + 1) * D ≤ q * D := Nat.mul_le_mul_right _ (by omega)
          rw [Nat.add_mul] at this
          omega
        have HCI := Lib.hid (show Ints .i64 wr (.slice (some ⟨g1, i * D, none⟩) D (k1 - i * D)) nd.coef from
          ⟨_, _, by rw [HCL.out], by rw [HCL.out]; omega, by omega, by rw [HCL.out]; omega, fun k' c hk' => ⟨g1, _, rfl, by omega, BX.out _ _ _ hg1 (HC1.out _ _ (by
            rw [← HI.out, ← HS.out, coef_get HOK.out HJ.out HND.out (by rw [← HCL.out]; exact (List.getElem?_eq_some_iff.1 hk').1)]
            unfold coefN
            rw [if_neg hl0]
            exact hk'))⟩⟩)
        obtain ⟨aa, haa⟩ : ∃ n, i * D = n := ⟨_, rfl⟩
        rw [haa] at hab HCI
        have hm1 : (i : Int) * (D : Int) = (aa : Int) := by rw [← haa]; simp
        have hm2 : ((i : Int) + 1) * (D : Int) = (aa : Int) + (D : Int) := by rw [Int.add_mul, hm1]; omega
        have hw1 : IntKind.i64.wrap ((i : Int) * (D : Int)) = (aa : Int) := by rw [IntKind.wrap_i64, hm1]; omega
        have hw3 : IntKind.i64.wrap (((i : Int) + 1) * (D : Int)) = (aa : Int) + (D : Int) := by rw [IntKind.wrap_i64, hm2]; omega
        have HCC := Lib.hid (fun W (hW : Below wr.heap.size wr W) => clone_row (HCI.out.below hW) (by rw [HCL.out]; omega) (.inr ⟨_, _, _, _, rfl⟩))
        have HC1' := Lib.hid (show 1 ≤ nd.coef.length by rw [HCL.out]; omega)
        obtain ⟨lf, hlf1⟩ : ∃ z, nd.left = z := ⟨_, rfl⟩
        obtain ⟨rt, hrt1⟩ : ∃ z, nd.right = z := ⟨_, rfl⟩
        obtain ⟨at1, hat1⟩ : ∃ z, nd.at_ = z := ⟨_, rfl⟩
        obtain ⟨sz, hsz⟩ : ∃ z, nd.size = z := ⟨_, rfl⟩
        have HRN := Lib.hid (show ∀ cv, rowN (nd, cv) = [cv, .int .i64 at1, .int .i64 lf, .int .i64 rt, .int .i64 sz] from fun cv => by unfold rowN; rw [hlf1, hrt1, hat1, hsz])
        rw [hat1] at c2
        rw [hsz] at c6
        obtain ⟨i', hi'⟩ : ∃ n, i + 1 = n := ⟨_, rfl⟩
        obtain ⟨s2, hs2⟩ : ∃ n, s + mm = n := ⟨_, rfl⟩
        rw [hi'] at c3
        rw [hs2] at c4
        have hw4 : IntKind.i64.wrap ((i' : Int) - (s : Int)) = lf := by have := HI.out; rw [IntKind.wrap_i64, ← hlf1, k1', ← hi']; omega
        have hw5 : IntKind.i64.wrap ((s2 : Int) - (s : Int)) = rt := by have := HI.out; have := HM.out; rw [IntKind.wrap_i64, ← hrt1, k4', ← hs2]; omega
        have hka : ¬ k1 = aa := by omega
        have htn : ((aa : Int) + (D : Int)).toNat - aa = D := by omega
        have hw2 : IntKind.i64.wrap ((i : Int) + 1) = (i : Int) + 1 := by rw [IntKind.wrap_i64]; omega
        have hi1' : (0 : Int) < (i' : Int) := by omega
        have s1 : (0 : Int) ≤ (aa : Int) := by omega
        have s2' : (aa : Int) ≤ (aa : Int) + (D : Int) := by omega
        have s3 : (aa : Int) + (D : Int) ≤ (k1 : Int) := by omega
        have hz2 : g2 < wr.heap.size := by omega
        have hz4 : g4 < wr.heap.size := by omega
        have hz1 : g1 < wr.heap.size := by omega
        clear e0 e1 hl0 k1' k2' k3' k4' k5' hmm hmm0 hkl hpb hpy haa hm1 hm2 hlf1 hrt1 hat1 hsz hi' hs2 hlf
        go_wp2_with fail
        (with_reducible refine (HE.out _ (SR.out.bel.trans (by (repeat (first | with_reducible exact Below.refl _ _ | with_reducible refine Bs ?_ | with_reducible refine Ba ?_ | with_reducible refine Bd ?_ | with_reducible refine Bn ?_))))).mono ?_)
        rintro e w2 ⟨rfl, rfl⟩
        go_upto_region 12 with fail
        have hND : wr.heap.size < (wr.alloc (.cells #[.slice none 0 0, .int .i64 0, .int .i64 0, .int .i64 0, .int .i64 sz] 190)).heap.size := by simp
        refine wp_region_held_drew (S := fun w' => w'.cell? ⟨P, 2, none⟩ = some (.slice (some ⟨g1, 0, none⟩) cl k1) ∧ w'.cell? ⟨w.heap.size + 1, 0, none⟩ = some (.int .i64 (D : Int)) ∧ w'.cell? ⟨P, 3, none⟩ = some (.slice (some ⟨g2, 0, none⟩) q k2) ∧ w'.cell? ⟨g2, i, none⟩ = some (.int .i64 at1)) (by kernel_rfl) ?_ (fun hHeld => ?_); (focus (first | with_reducible exact True.intro | ((try dsimp only); and_intros <;> first | (go_simp; done) | (go_keep; done)))); (refine lexTk 0 (v := ?_) rfl hHeld ?_ (by kernel_rfl) (fun _ _ _ h => h) ?_ ?_; rotate_left 2; (focus rfl); (focus (intro w hSw; (try dsimp only at hSw); first | (go_simp; done) | (go_simp; with_reducible rfl)))); (try simp only [Act.put, List.setIfInBounds_toArray, List.set_cons_zero, List.set_cons_succ]); (refine lexTk 1 (v := ?_) rfl hHeld ?_ (by kernel_rfl) (fun _ _ _ h => h) ?_ ?_; rotate_left 2; (focus rfl); (focus (intro w hSw; (try dsimp only at hSw); first | (go_simp; done) | (go_simp; with_reducible rfl)))); (try simp only [Act.put, List.setIfInBounds_toArray, List.set_cons_zero, List.set_cons_succ]); (refine lexTk 2 (v := ?_) rfl hHeld ?_ (by kernel_rfl) (fun _ _ _ h => h) ?_ ?_; rotate_left 2; (focus rfl); (focus (intro w hSw; (try dsimp only at hSw); first | (go_simp; done) | (go_simp; with_reducible rfl)))); (try simp only [Act.put, List.setIfInBounds_toArray, List.set_cons_zero, List.set_cons_succ]); (refine lexTk 3 (v := ?_) rfl hHeld ?_ (by kernel_rfl) (fun _ _ _ h => h) ?_ ?_; rotate_left 2; (focus rfl); (focus (intro w hSw; (try dsimp only at hSw); first | (go_simp; done) | (go_simp; with_reducible rfl)))); (try simp only [Act.put, List.setIfInBounds_toArray, List.set_cons_zero, List.set_cons_succ]); (refine lexTk 4 (v := ?_) rfl hHeld ?_ (by kernel_rfl) (fun _ _ _ h => h) ?_ ?_; rotate_left 2; (focus rfl); (focus (intro w hSw; (try dsimp only at hSw); first | (go_simp; done) | (go_simp; with_reducible rfl)))); (try simp only [Act.put, List.setIfInBounds_toArray, List.set_cons_zero, List.set_cons_succ]); (refine lexTk 5 (v := ?_) rfl hHeld ?_ (by kernel_rfl) (fun _ _ _ h => h) ?_ ?_; rotate_left 2; (focus rfl); (focus (intro w hSw; (try dsimp only at hSw); first | (go_simp; done) | (go_simp; with_reducible rfl)))); (try simp only [Act.put, List.setIfInBounds_toArray, List.set_cons_zero, List.set_cons_succ]); (refine lexTk 6 (v := ?_) rfl hHeld ?_ (by kernel_rfl) (fun _ _ _ h => h) ?_ ?_; rotate_left 2; (focus rfl); (focus (intro w hSw; (try dsimp only at hSw); first | (go_simp; done) | (go_simp; with_reducible rfl)))); (try simp only [Act.put, List.setIfInBounds_toArray, List.set_cons_zero, List.set_cons_succ]); (refine lexTk 7 (v := ?_) rfl hHeld ?_ (by kernel_rfl) (fun _ _ _ h => h) ?_ ?_; rotate_left 2; (focus rfl); (focus (intro w hSw; (try dsimp only at hSw); first | (go_simp; done) | (go_simp; with_reducible rfl)))); (try simp only [Act.put, List.setIfInBounds_toArray, List.set_cons_zero, List.set_cons_succ]); (refine lexTk 8 (v := ?_) rfl hHeld ?_ (by kernel_rfl) (fun _ _ _ h => h) ?_ ?_; rotate_left 2; (focus rfl); (focus (intro w hSw; (try dsimp only at hSw); first | (go_simp; done) | (go_simp; with_reducible rfl)))); (try simp only [Act.put, List.setIfInBounds_toArray, List.set_cons_zero, List.set_cons_succ]); (refine lexTk 9 (v := ?_) rfl hHeld ?_ (by kernel_rfl) (fun _ _ _ h => h) ?_ ?_; rotate_left 2; (focus rfl); (focus (intro w hSw; (try dsimp only at hSw); first | (go_simp; done) | (go_simp; with_reducible rfl)))); (try simp only [Act.put, List.setIfInBounds_toArray, List.set_cons_zero, List.set_cons_succ]); (refine lexTk 10 (v := ?_) rfl hHeld ?_ (by kernel_rfl) (fun _ _ _ h => h) ?_ ?_; rotate_left 2; (focus rfl); (focus (intro w hSw; (try dsimp only at hSw); first | (go_simp; done) | (go_simp; with_reducible rfl)))); (try simp only [Act.put, List.setIfInBounds_toArray, List.set_cons_zero, List.set_cons_succ]); (refine lexTk 11 (v := ?_) rfl hHeld ?_ (by kernel_rfl) (fun _ _ _ h => h) ?_ ?_; rotate_left 2; (focus rfl); (focus (intro w hSw; (try dsimp only at hSw); first | (go_simp; done) | (go_simp; with_reducible rfl)))); (try simp only [Act.put, List.setIfInBounds_toArray, List.set_cons_zero, List.set_cons_succ]); (refine lexTk 12 (v := ?_) rfl hHeld ?_ (by kernel_rfl) (fun _ _ _ h => h) ?_ ?_; rotate_left 2; (focus rfl); (focus (intro w hSw; (try dsimp only at hSw); first | (go_simp; done) | (go_simp; with_reducible rfl)))); (try simp only [Act.put, List.setIfInBounds_toArray, List.set_cons_zero, List.set_cons_succ]); (refine lexTk 13 (v := ?_) rfl hHeld ?_ (by kernel_rfl) (fun _ _ _ h => h) ?_ ?_; rotate_left 2; (focus rfl); (focus (intro w hSw; (try dsimp only at hSw); first | (go_simp; done) | (go_simp; with_reducible rfl)))); (try simp only [Act.put, List.setIfInBounds_toArray, List.set_cons_zero, List.set_cons_succ]); (refine lexTk 14 (v := ?_) rfl hHeld ?_ (by kernel_rfl) (fun _ _ _ h => h) ?_ ?_; rotate_left 2; (focus rfl); (focus (intro w hSw; (try dsimp only at hSw); first | (go_simp; done) | (go_simp; with_reducible rfl)))); (try simp only [Act.put, List.setIfInBounds_toArray, List.set_cons_zero, List.set_cons_succ]); (refine lexTk 16 (v := ?_) rfl hHeld ?_ (by kernel_rfl) (fun _ _ _ h => h) ?_ ?_; rotate_left 2; (focus rfl); (focus (intro w hSw; (try dsimp only at hSw); first | (go_simp; done) | (go_simp; with_reducible rfl)))); (try simp only [Act.put, List.setIfInBounds_toArray, List.set_cons_zero, List.set_cons_succ]); (refine lexTk 17 (v := ?_) rfl hHeld ?_ (by kernel_rfl) (fun _ _ _ h => h) ?_ ?_; rotate_left 2; (focus rfl); (focus (intro w hSw; (try dsimp only at hSw); first | (go_simp; done) | (go_simp; with_reducible rfl)))); (try simp only [Act.put, List.setIfInBounds_toArray, List.set_cons_zero, List.set_cons_succ]); (refine lexTk 18 (v := ?_) rfl hHeld ?_ (by kernel_rfl) (fun _ _ _ h => h) ?_ ?_; rotate_left 2; (focus rfl); (focus (intro w hSw; (try dsimp only at hSw); first | (go_simp; done) | (go_simp; with_reducible rfl)))); (try simp only [Act.put, List.setIfInBounds_toArray, List.set_cons_zero, List.set_cons_succ]); (refine lexTk 19 (v := ?_) rfl hHeld ?_ (by kernel_rfl) (fun _ _ _ h => h) ?_ ?_; rotate_left 2; (focus rfl); (focus (intro w hSw; (try dsimp only at hSw); first | (go_simp; done) | (go_simp; with_reducible rfl)))); (try simp only [Act.put, List.setIfInBounds_toArray, List.set_cons_zero, List.set_cons_succ]); (refine lexTk 20 (v := ?_) rfl hHeld ?_ (by kernel_rfl) (fun _ _ _ h => h) ?_ ?_; rotate_left 2; (focus rfl); (focus (intro w hSw; (try dsimp only at hSw); first | (go_simp; done) | (go_simp; with_reducible rfl)))); (try simp only [Act.put, List.setIfInBounds_toArray, List.set_cons_zero, List.set_cons_succ]); (refine lexTk 21 (v := ?_) rfl hHeld ?_ (by kernel_rfl) (fun _ _ _ h => h) ?_ ?_; rotate_left 2; (focus rfl); (focus (intro w hSw; (try dsimp only at hSw); first | (go_simp; done) | (go_simp; with_reducible rfl)))); (try simp only [Act.put, List.setIfInBounds_toArray, List.set_cons_zero, List.set_cons_succ]); (refine lexTk 22 (v := ?_) rfl hHeld ?_ (by kernel_rfl) (fun _ _ _ h => h) ?_ ?_; rotate_left 2; (focus rfl); (focus (intro w hSw; (try dsimp only at hSw); first | (go_simp; done) | (go_simp; with_reducible rfl)))); (try simp only [Act.put, List.setIfInBounds_toArray, List.set_cons_zero, List.set_cons_succ]); (refine lexTk 23 (v := ?_) rfl hHeld ?_ (by kernel_rfl) (fun _ _ _ h => h) ?_ ?_; rotate_left 2; (focus rfl); (focus (intro w hSw; (try dsimp only at hSw); first | (go_simp; done) | (go_simp; with_reducible rfl)))); (try simp only [Act.put, List.setIfInBounds_toArray, List.set_cons_zero, List.set_cons_succ]); refine lexHv 15 rfl ?_ (by kernel_rfl); (intro K hK); (go_simp; (go_at_call 133); ((with_reducible refine (HCC.out _ (by (repeat (first | with_reducible exact Below.refl _ _ | with_reducible refine Bs ?_ | with_reducible refine Ba ?_ | with_reducible refine Bd ?_ | with_reducible refine Bn ?_)))).mono ?_)); (rintro e w3 ⟨ca, cn, cc', rfl, ci, cf, cb⟩); (have y0 : w3.cell? ⟨P, 2, none⟩ = some (.slice (some ⟨g1, 0, none⟩) cl k1) := (cb.cell (by first | omega | (simp; done) | (simp; omega))).trans (by go_simp)); (have y1 : w3.cell? ⟨w.heap.size + 1, 0, none⟩ = some (.int .i64 (D : Int)) := (cb.cell (by first | omega | (simp; done) | (simp; omega))).trans (by go_simp)); (have y2 : w3.cell? ⟨P, 3, none⟩ = some (.slice (some ⟨g2, 0, none⟩) q k2) := (cb.cell (by first | omega | (simp; done) | (simp; omega))).trans (by go_simp)); (have y3 : w3.cell? ⟨g2, i, none⟩ = some (.int .i64 at1) := (cb.cell (by first | omega | (simp; done) | (simp; omega))).trans (by go_simp)); (have z0 : w3.cell? ⟨wr.heap.size, 0, none⟩ = some (.slice none 0 0) := (cb.cell (by first | omega | (simp; done) | (simp; omega))).trans (by go_simp)); (have z1 : w3.cell? ⟨wr.heap.size, 1, none⟩ = some (.int .i64 0) := (cb.cell (by first | omega | (simp; done) | (simp; omega))).trans (by go_simp)); (have z2 : w3.cell? ⟨wr.heap.size, 2, none⟩ = some (.int .i64 0) := (cb.cell (by first | omega | (simp; done) | (simp; omega))).trans (by go_simp)); (have z3 : w3.cell? ⟨wr.heap.size, 3, none⟩ = some (.int .i64 0) := (cb.cell (by first | omega | (simp; done) | (simp; omega))).trans (by go_simp)); (have z4 : w3.cell? ⟨wr.heap.size, 4, none⟩ = some (.int .i64 sz) := (cb.cell (by first | omega | (simp; done) | (simp; omega))).trans (by go_simp)); (have zf0 : w3.frozen? ⟨wr.heap.size, 0, none⟩ = false := (cb.frozen (p := ⟨wr.heap.size, 0, none⟩) (by first | omega | (simp; done) | (simp; omega))).trans (by go_simp)); (have zf1 : w3.frozen? ⟨wr.heap.size, 1, none⟩ = false := (cb.frozen (p := ⟨wr.heap.size, 1, none⟩) (by first | omega | (simp; done) | (simp; omega))).trans (by go_simp)); (have zf2 : w3.frozen? ⟨wr.heap.size, 2, none⟩ = false := (cb.frozen (p := ⟨wr.heap.size, 2, none⟩) (by first | omega | (simp; done) | (simp; omega))).trans (by go_simp)); (have zf3 : w3.frozen? ⟨wr.heap.size, 3, none⟩ = false := (cb.frozen (p := ⟨wr.heap.size, 3, none⟩) (by first | omega | (simp; done) | (simp; omega))).trans (by go_simp)); (have CB := Lib.hid cb); (have CI := Lib.hid ci); (have CF := Lib.hid cf); (clear cb ci cf); (try go_wp2_with fail)); refine hK.out _ _ ?_ ?_; (focus (first | with_reducible exact True.intro | ((try dsimp only); and_intros <;> first | (go_simp; done) | (go_keep; done)))); (clear hHeld hK K); (intro hHeld); (try simp only [Act.put, List.setIfInBounds_toArray, List.set_cons_zero, List.set_cons_succ]); (refine lexTk 24 (v := ?_) rfl hHeld ?_ (by kernel_rfl) (fun _ _ _ h => h) ?_ ?_; rotate_left 2; (focus rfl); (focus (intro w hSw; (try dsimp only at hSw); first | (go_simp; done) | (go_simp; with_reducible rfl)))); (try simp only [Act.put, List.setIfInBounds_toArray, List.set_cons_zero, List.set_cons_succ]); (refine lexTk 25 (v := ?_) rfl hHeld ?_ (by kernel_rfl) (fun _ _ _ h => h) ?_ ?_; rotate_left 2; (focus rfl); (focus (intro w hSw; (try dsimp only at hSw); first | (go_simp; done) | (go_simp; with_reducible rfl)))); (try simp only [Act.put, List.setIfInBounds_toArray, List.set_cons_zero, List.set_cons_succ]); refine lexHv 26 rfl ?_ (by kernel_rfl); (intro K hK); (go_simp); refine hK.out _ _ ?_ ?_; (focus (first | with_reducible exact True.intro | ((try dsimp only); and_intros <;> first | (go_simp; done) | (go_keep; done)))); (clear hHeld hK K); (intro hHeld); (try simp only [Act.put]); refine wpAnyH_done (by kernel_rfl) ?_ _
        have hN3 : wr.heap.size < w3.heap.size := World.block_lt_of_cell? _ _ z4
        have bk : ∀ (b o : Nat) (v : Value), b < wr.heap.size → wr.cell? ⟨b, o, none⟩ = some v → w3.cell? ⟨b, o, none⟩ = some v := fun b o v hb hc => (CB.out.cell (by first | omega | (simp; done) | (simp; omega))).trans (by go_simp)
        have q4 := bk _ _ _ hzP p4
        have q5 := bk _ _ _ hzP p5
        have d3 := bk _ _ _ hz3 c3
        have d4 := bk _ _ _ hz4 c4
        have T1 := bk _ _ _ hzT t1
        have TF1 : w3.frozen? ⟨w.heap.size + 1, 1, none⟩ = false := (CB.out.frozen (p := ⟨w.heap.size + 1, 1, none⟩) (by first | omega | (simp; done) | (simp; omega))).trans (((show Below wr.heap.size wr _ from by (repeat (first | with_reducible exact Below.refl _ _ | with_reducible refine Bs ?_ | with_reducible refine Ba ?_ | with_reducible refine Bd ?_ | with_reducible refine Bn ?_))).frozen (p := ⟨w.heap.size + 1, 1, none⟩) hzT).trans tf1)
        have nP : P ≠ wr.heap.size := by omega
        have n3' : g3 ≠ wr.heap.size := by omega
        have n4' : g4 ≠ wr.heap.size := by omega
        have hP3 : P < w3.heap.size := by omega
        have hg33 : g3 < w3.heap.size := by omega
        have hg43 : g4 < w3.heap.size := by omega
        have hT3 : w.heap.size + 1 < w3.heap.size := by omega
        clear bk y0 y1 y2 y3 hHeld
        go_upto_region 13 with fail
        go_region
        go_upto_region 14 with fail
        obtain ⟨W4, hW4⟩ : ∃ W, ((((w3.setCell ⟨wr.heap.size, 0, none⟩ (.slice ca cn cc')).setCell ⟨wr.heap.size, 1, none⟩ (.int .i64 at1)).setCell ⟨wr.heap.size, 2, none⟩ (.int .i64 lf)).setCell ⟨wr.heap.size, 3, none⟩ (.int .i64 rt)).drew = W := ⟨_, rfl⟩
        have BW4 := Lib.hid (show Below wr.heap.size wr W4 from by rw [← hW4]; (repeat (first | with_reducible exact Below.refl _ _ | with_reducible refine Bs ?_ | with_reducible refine Ba ?_ | with_reducible refine Bd ?_ | with_reducible refine Bn ?_ | with_reducible refine Bt CB.out ?_)))
        have m0 : W4.cell? ⟨wr.heap.size, 0, none⟩ = some (.slice ca cn cc') := by subst hW4; go_simp
        have m1 : W4.cell? ⟨wr.heap.size, 1, none⟩ = some (.int .i64 at1) := by subst hW4; go_simp
        have m2 : W4.cell? ⟨wr.heap.size, 2, none⟩ = some (.int .i64 lf) := by subst hW4; go_simp
        have m3 : W4.cell? ⟨wr.heap.size, 3, none⟩ = some (.int .i64 rt) := by subst hW4; go_simp
        have m4 : W4.cell? ⟨wr.heap.size, 4, none⟩ = some (.int .i64 sz) := by subst hW4; go_simp
        have t14 : W4.cell? ⟨w.heap.size + 1, 1, none⟩ = some (.slice ta tn tc) := (BW4.out.cell (p := ⟨w.heap.size + 1, 1, none⟩) hzT).trans t1
        have tf14 : W4.frozen? ⟨w.heap.size + 1, 1, none⟩ = false := (BW4.out.frozen (p := ⟨w.heap.size + 1, 1, none⟩) hzT).trans tf1
        have hz43 : w3.heap.size ≤ W4.heap.size := by rw [← hW4]; simp
        have hk43 : ∀ g, g ≠ wr.heap.size → W4.heap[g]? = w3.heap[g]? := fun g hg => by rw [← hW4]; exact (Below.heap_setCell _ _ _ _ hg).trans ((Below.heap_setCell _ _ _ _ hg).trans ((Below.heap_setCell _ _ _ _ hg).trans (Below.heap_setCell _ _ _ _ hg)))
        have CF3 := Lib.hid (show ∀ g, AtB (.slice ca cn cc') g → wr.heap.size < g ∧ g < w3.heap.size from fun g hg => ⟨by have := CF.out g hg; simp at this; omega, by
          obtain ⟨a', c', e, _, _, _, h4⟩ := CI.out
          obtain ⟨x0, hx0⟩ := getElem?_ex (l := nd.coef) (k := 0) HC1'.out
          obtain ⟨b', o', rfl, hb', _⟩ := h4 0 x0 hx0
          obtain ⟨o'', n'', c'', e2⟩ := hg
          rw [e] at e2
          injection e2 with e2
          injection e2 with e2
          injection e2 with e2
          omega⟩)
        have CI4 := Lib.hid (show Ints .i64 W4 (.slice ca cn cc') nd.coef from ints_kept CI.out (fun g hg => hk43 g (by have := CF3.out g hg; omega)) hz43)
        have CF4 := Lib.hid (show ∀ g, AtB (.slice ca cn cc') g → wr.heap.size ≤ g ∧ g < W4.heap.size from fun g hg => by have := CF3.out g hg; omega)
        have hT4 : w.heap.size + 1 < W4.heap.size := by omega
        have hN4 : wr.heap.size < W4.heap.size := by omega
        rw [hW4]
        clear hW4 hk43 z0 z1 z2 z3 z4 zf0 zf1 zf2 zf3 q4 q5 d3 d4 T1 TF1 p0 p1 p2 p3 p4 p5 p7 c2 c3 c4 c6
        go_wp2_with (at_builtin; go_must (refine app1N rfl _ _ 104 rfl Try.underlying104 eiNode (w.heap.size + 1 + 1) (by rfl) (own_keep SR.out.own (fun g _ hg => BW4.out.block g hg)) (by rfl) (by simp) rfl (by simp [Value.oneCell']) (by have := HPL.out; omega) (by omega) ?_))
        intro v5' w5 o5 g5' n5
        obtain ⟨a5, n5', c5, rfl⟩ := own_shape o5
        have hno : (Value.slice ta tn tc).ownBlock ≠ some (w.heap.size + 1) := fun e => by have := (SR.out.own.lt _ e).1; omega
        have x1 : w5.cell? ⟨w.heap.size + 1, 1, none⟩ = some (.slice ta tn tc) := (gcell g5' hT4 hno).trans t14
        have xf1 : w5.frozen? ⟨w.heap.size + 1, 1, none⟩ = false := (gfroz g5' hT4 hno).trans tf14
        have hlz := World.block_lt_of_cell? _ _ x1
        dsimp only at hlz
        have SN := Lib.hid (SR.out.next (n := nd) (cv := .slice ca cn cc') BW4.out CI4.out CF4.out g5' (by rw [HRN.out]; exact o5) n5)
        clear o5 g5' n5 hno
        go_wp2_with fail
        go_roundw
        case rel => exact ⟨k + 1, _, ps ++ [(nd, .slice ca cn cc')], by rw [show ((s + (k + 1) : Nat) : Int) = (i : Int) + 1 by have := HI.out; omega], by omega, by rw [List.map_append, HPS.out, HTK.out]; rfl, SN.out⟩
        case measure => (have := HI.out; simp [intOf]; omega)
    · have hkm : k = m := by omega
      subst hkm
      have i3 : ¬ (i : Int) < ((s + k : Nat) : Int) := by have := HI.out; omega
      have r0 : wr.cell? ⟨w.heap.size, 0, none⟩ = some (.int .i64 0) := (SR.out.rR.cell 0).trans rfl
      have r1 : wr.cell? ⟨w.heap.size, 1, none⟩ = some (.slice none 0 0) := (SR.out.rR.cell 1).trans rfl
      have rf0 : wr.frozen? ⟨w.heap.size, 0, none⟩ = false := SR.out.rR.frozen 0
      have rf1 : wr.frozen? ⟨w.heap.size, 1, none⟩ = false := SR.out.rR.frozen 1
      have hzR : w.heap.size < wr.heap.size := by omega
      have BR := Lib.hid SR.out.bel
      have HLO := Lib.hid (show ∀ g, (Value.slice ta tn tc).ownBlock = some g → g ≠ w.heap.size from fun g hg => by have := (SR.out.own.lt g hg).1; omega)
      have HCF := Lib.hid (show ∀ p ∈ ps, ∀ g, AtB p.2 g → g ≠ w.heap.size from fun p hp g hg => by have := ((SR.out.cf p hp).2 g hg).2.1; omega)
      have HOW := Lib.hid SR.out.own
      have HCC := Lib.hid (fun p hp => (SR.out.cf p hp).1)
      obtain ⟨sm, hsm2⟩ : ∃ n, s + k = n := ⟨_, rfl⟩
      rw [hsm2] at i3 HE
      clear hsm2 p0 p1 p2 p3 p4 p5 p7
      go_wp2_with fail
      (with_reducible refine (HE.out _ (BR.out.trans (by (repeat (first | with_reducible exact Below.refl _ _ | with_reducible refine Bs ?_ | with_reducible refine Ba ?_ | with_reducible refine Bd ?_ | with_reducible refine Bn ?_))))).mono ?_)
      rintro e w2 ⟨rfl, rfl⟩
      go_wp2_with fail
      obtain ⟨W, hW⟩ : ∃ W, (wr.setCell ⟨w.heap.size, 0, none⟩ (.int .i64 (D : Int))).setCell ⟨w.heap.size, 1, none⟩ (.slice ta tn tc) = W := ⟨_, rfl⟩
      have f0 : W.cell? ⟨w.heap.size, 0, none⟩ = some (.int .i64 (D : Int)) := by subst hW; go_simp
      have f1 : W.cell? ⟨w.heap.size, 1, none⟩ = some (.slice ta tn tc) := by subst hW; go_simp
      have HB := Lib.hid (show Below w.heap.size w W from by rw [← hW]; (repeat (first | with_reducible exact Below.refl _ _ | with_reducible refine Bs ?_ | with_reducible refine Ba ?_ | with_reducible refine Bd ?_ | with_reducible refine Bn ?_ | with_reducible refine Bt BR.out ?_)))
      have hk : ∀ g, g ≠ w.heap.size → W.heap[g]? = wr.heap[g]? := fun g hg => by rw [← hW]; exact (Below.heap_setCell _ _ _ _ hg).trans (Below.heap_setCell _ _ _ _ hg)
      have hzW : wr.heap.size ≤ W.heap.size := by rw [← hW]; simp
      have HNW := Lib.hid (own_nodes (own_at HOW.out fun g hg => hk g (HLO.out g hg)) rfl (by rw [HPL.out]; omega) fun p hp => ints_kept (HCC.out p hp) (fun g hg => hk g (HCF.out p hp g hg)) hzW)
      rw [HPS.out, List.take_of_length_le (by rw [HM.out]; exact Nat.le_refl _)] at HNW
      rw [hW]
      exact bodyPost_ret (v := .tuple #[.agg #[.int .i64 (D : Int), .slice ta tn tc], .int .i64 0]) (by simp [results, Try.results66, go_sem, f0, f1]) rfl ⟨_, rfl, HNW.out, HB.out⟩
end Go.Proofs.Ytjmjnkilgoelbaa
