/-
  RefPathG: Walk of copseref12.Lengths.
-/
import Derived.Test.YtdbonlpkmncggaaKRefPathF
import Derived.Test.YtdbonlpkmncggaaJ0b
import Derived.Test.YtdbonlpkmncggaaJ1a
namespace Go.Proofs.Ytdbonlpkmncggaa
open Go.RowKit

theorem lenL_succ {t : TreeP} {k j : Nat} (h : (leavesT t t.nodes.length)[k]? = some j) : (lenL t).take (k + 1) = (lenL t).take k ++ [lenOf t j] := take_snoc' (by unfold lenL; rw [List.getElem?_map, h]; rfl)

set_option maxRecDepth 100000 in
set_option maxHeartbeats 4000000 in
theorem rlengths_any (v : Value) (t : TreeP) (w : World) (h : TreeR w v t) :
    Calls Try.prog 63 #[v] w fun e w' => ∃ vo, e = .returned vo ∧ Ints .i64 w' vo (if treeB t = true then lenL t else []) ∧ Below w.heap.size w w' := by
  have HTR := Lib.hid h
  have HLE := Lib.hid (fun W (hW : TreeR W v t) => rleaves_any v t W hW)
  have HDE := Lib.hid (fun W (hW : TreeR W v t) => rdepths_any v t W hW)
  obtain ⟨nv, rfl, ad, cc, rfl, _, _, q3, _⟩ := h
  obtain ⟨TB, hTB⟩ : ∃ TB, treeB t = TB := ⟨_, rfl⟩
  rw [hTB] at HLE HDE ⊢
  cases TB with
  | false =>
    simp only [Bool.false_eq_true, if_false] at HLE HDE ⊢
    clear hTB
    generalize t.nodes.length = n at *
    generalize t.dim = D at *
    go_enter Try.func63, Try.ntmps63
    go_wp2_with fail
    (with_reducible refine (HLE.out _ (HTR.out.below (by (repeat (first | with_reducible exact Below.refl _ _ | with_reducible refine Bs ?_ | with_reducible refine Ba ?_ | with_reducible refine Bd ?_ | with_reducible refine Bn ?_))))).mono ?_); rintro e w1 ⟨vo, rfl, iv, b1⟩; have s1 : w.heap.size + 1 ≤ w1.heap.size := sz b1; have B1 := Lib.hid (Bc (B := w.heap.size) (a := w) (by (repeat (first | with_reducible exact Below.refl _ _ | with_reducible refine Bs ?_ | with_reducible refine Ba ?_ | with_reducible refine Bd ?_ | with_reducible refine Bn ?_))) b1); obtain ⟨c1_0, c1_1⟩ := k2 (w.heap.size) (.int .i64 D) (.slice ad n cc) b1 (by and_intros <;> go_simp); obtain ⟨l1_0, n1_0, m1_0⟩ := lnm (show w.heap.size < w1.heap.size by omega); clear b1
    obtain ⟨pa, pc, rfl, _⟩ := iv
    go_wp2_with fail
    (with_reducible refine (HDE.out _ (HTR.out.below (by (repeat (first | with_reducible exact Below.refl _ _ | with_reducible refine Bs ?_ | with_reducible refine Ba ?_ | with_reducible refine Bd ?_ | with_reducible refine Bn ?_ | with_reducible refine Bt B1.out ?_))))).mono ?_); rintro e w2 ⟨vo2, rfl, iv, b2⟩; have s2 : w1.heap.size ≤ w2.heap.size := sz b2; have B2 := Lib.hid (Bc (B := w.heap.size) (a := w) (by (repeat (first | with_reducible exact Below.refl _ _ | with_reducible refine Bs ?_ | with_reducible refine Ba ?_ | with_reducible refine Bd ?_ | with_reducible refine Bn ?_ | with_reducible refine Bt B1.out ?_))) b2); have c2_0 : w2.cell? ⟨w.heap.size, 0, none⟩ = some (.int .i64 D) := kc b2 (by go_simp) (by first | omega | (simp; done) | (simp; omega)); obtain ⟨l2_0, n2_0, m2_0⟩ := lnm (show w.heap.size < w2.heap.size by omega); clear b2
    go_wp2_with fail
    go_loopw [5, 6] (fun o i wr => o = .slice none 0 0 ∧ i = .int .i64 0 ∧ wr = w2) (fun _ _ _ => 0)
    case atStart => exact ⟨rfl, rfl, rfl⟩
    case round =>
      obtain ⟨rfl, rfl, rfl⟩ := hrel
      go_wp2_with fail
      go_ret
      exact ⟨_, rfl, ints_nil _ _ _ _ (by omega), by (repeat (first | with_reducible exact Below.refl _ _ | with_reducible refine Bs ?_ | with_reducible refine Ba ?_ | with_reducible refine Bd ?_ | with_reducible refine Bn ?_ | with_reducible refine Bt B2.out ?_))⟩
  | true =>
    simp only [if_true] at HLE HDE ⊢
    have ht := treeB_true.1 hTB
    have hlen := ht.len
    have HFA := Lib.hid (show ∀ k j : Nat, (leavesT t t.nodes.length)[k]? = some j → _ from fun k j hj => leafAt_facts ht hj)
    have HDP := Lib.hid (show ∀ j, depOf t j ≤ 6 ∨ t.nodes.length ≤ j from fun j => by
      rcases Nat.lt_or_ge j t.nodes.length with h | h
      · obtain ⟨_, _, g, s, q, h1, h2⟩ := ht
        have := logI_le h1
        have := q.dep 6 (by omega) j (by omega) h
        unfold depOf
        exact .inl (by omega)
      · exact .inr h)
    have HLS := Lib.hid (show ∀ k j : Nat, (leavesT t t.nodes.length)[k]? = some j → _ from fun k j hj => lenL_succ (t := t) hj)
    have HLL := Lib.hid (show (lenL t).length = (leavesT t t.nodes.length).length by unfold lenL; rw [List.length_map])
    have hcl : (leavesT t t.nodes.length).length ≤ t.nodes.length := by unfold leavesT; have := List.length_filter_le (isLeafAt t) (List.range t.nodes.length); simpa using this
    obtain ⟨b, o, rfl⟩ := HTR.out.addr (i := 0) (by omega)
    obtain ⟨LV, hLV⟩ : ∃ LV, leavesT t t.nodes.length = LV := ⟨_, rfl⟩
    rw [hLV] at HLE HFA HLS HLL hcl
    clear hTB ht hLV
    obtain ⟨n, hn⟩ : ∃ n, t.nodes.length = n := ⟨_, rfl⟩
    rw [hn] at HTR HLE HDE hlen q3 HDP hcl ⊢
    have HL := Lib.hid hn
    obtain ⟨D, hD⟩ : ∃ D, t.dim = D := ⟨_, rfl⟩
    rw [hD] at HTR HLE HDE ⊢
    clear hn hD
    have hnI : (n : Int) ≤ 127 := by omega
    obtain ⟨m, hm⟩ : ∃ m, LV.length = m := ⟨_, rfl⟩
    rw [hm] at hcl HLL
    have HML := Lib.hid hm
    clear hm
    go_enter Try.func63, Try.ntmps63
    go_wp2_with fail
    (with_reducible refine (HLE.out _ (HTR.out.below (by (repeat (first | with_reducible exact Below.refl _ _ | with_reducible refine Bs ?_ | with_reducible refine Ba ?_ | with_reducible refine Bd ?_ | with_reducible refine Bn ?_))))).mono ?_); rintro e w1 ⟨vo, rfl, iv, b1⟩; have s1 : w.heap.size + 1 ≤ w1.heap.size := sz b1; have B1 := Lib.hid (Bc (B := w.heap.size) (a := w) (by (repeat (first | with_reducible exact Below.refl _ _ | with_reducible refine Bs ?_ | with_reducible refine Ba ?_ | with_reducible refine Bd ?_ | with_reducible refine Bn ?_))) b1); obtain ⟨c1_0, c1_1⟩ := k2 (w.heap.size) (.int .i64 D) (.slice (some ⟨b, o, none⟩) n cc) b1 (by and_intros <;> go_simp); obtain ⟨l1_0, n1_0, m1_0⟩ := lnm (show w.heap.size < w1.heap.size by omega); clear b1
    have IV := Lib.hid iv
    obtain ⟨pa, pc, rfl, _⟩ := iv
    rw [List.length_map, HML.out] at IV ⊢
    go_wp2_with fail
    (with_reducible refine (HDE.out _ (HTR.out.below (by (repeat (first | with_reducible exact Below.refl _ _ | with_reducible refine Bs ?_ | with_reducible refine Ba ?_ | with_reducible refine Bd ?_ | with_reducible refine Bn ?_ | with_reducible refine Bt B1.out ?_))))).mono ?_); rintro e w2 ⟨vo2, rfl, iv2, b2⟩; have s2 : w1.heap.size ≤ w2.heap.size := sz b2; have B2 := Lib.hid (Bc (B := w.heap.size) (a := w) (by (repeat (first | with_reducible exact Below.refl _ _ | with_reducible refine Bs ?_ | with_reducible refine Ba ?_ | with_reducible refine Bd ?_ | with_reducible refine Bn ?_ | with_reducible refine Bt B1.out ?_))) b2); obtain ⟨c2_0, c2_1⟩ := k2 (w.heap.size) (.int .i64 D) (.slice (some ⟨b, o, none⟩) n cc) b2 (by and_intros <;> go_simp); obtain ⟨l2_0, n2_0, m2_0⟩ := lnm (show w.heap.size < w2.heap.size by omega); have IV := Lib.hid ((IV.out.below (by (repeat (first | with_reducible exact Below.refl _ _ | with_reducible refine Bs ?_ | with_reducible refine Ba ?_ | with_reducible refine Bd ?_ | with_reducible refine Bn ?_)))).below b2); clear b2
    have IV2 := Lib.hid iv2
    obtain ⟨pa2, pc2, rfl, _⟩ := iv2
    rw [List.length_map, List.length_range] at IV2 ⊢
    go_wp2_with fail
    go_loopw [5, 6] (fun out i wr => ∃ k : Nat, i = .int .i64 k ∧ k ≤ m ∧ wr.ownsRow w2.heap.size 3 1 out k (((lenL t).take k).map P64) ∧ Below w2.heap.size w2 wr) (fun _ i _ => m - (intOf i).toNat)
    case atStart => exact ⟨0, rfl, by omega, World.ownsRow_nil _ _ _ _, Below.refl _ _⟩
    case round =>
      obtain ⟨k, rfl, hk, hown, hbr⟩ := hrel
      have HOWN := Lib.hid hown
      have HBR := Lib.hid hbr
      have hsz := hbr.size
      by_cases hlt : k < m
      · obtain ⟨j, hj⟩ := getElem?_ex (l := LV) (k := k) (by rw [HML.out]; exact hlt)
        obtain ⟨nd, hnd, _, n1, n2, n3, n4, n5⟩ := HFA.out k j hj
        have hjn : j < n := by have := (List.getElem?_eq_some_iff.1 hnd).1; have := HL.out; omega
        have hd6 : depOf t j ≤ 6 := by rcases HDP.out j with h | h <;> omega
        have HST := Lib.hid (HLS.out k j hj)
        have HLO := Lib.hid (show lenOf t j = (depOf t j : Int) * 1073741824 + normI nd.size by unfold lenOf; rw [n5])
        obtain ⟨hbw, hat⟩ := HTR.out.node hnd
        obtain ⟨_, _, _, _, _, _, _, e40⟩ := hat.val
        have e4 := ((show Below w.heap.size w wr from below_tr B2.out (hbr.mono (by omega))).cell (p := ⟨b, o + j * 5 + 4, none⟩) hbw).trans e40
        clear e40
        obtain ⟨_, _, e, _, _, _, g1⟩ := IV.out
        rw [List.length_map, HML.out] at e
        injection e with q1 q2 q3'
        subst q1
        obtain ⟨xb, xo, rfl, xl, xc⟩ := g1 k (j : Int) (by rw [List.getElem?_map, hj]; rfl)
        obtain ⟨_, _, e, _, _, _, g2⟩ := IV2.out
        rw [List.length_map, List.length_range] at e
        injection e with q1 q2 q3'
        subst q1
        obtain ⟨yb, yo, rfl, yl, yc⟩ := g2 j (depOf t j : Int) (by rw [List.getElem?_map, List.getElem?_range hjn]; rfl)
        have ex := (hbr.cell (p := ⟨xb, xo + k, none⟩) xl).trans xc
        have ey := (hbr.cell (p := ⟨yb, yo + j, none⟩) yl).trans yc
        have b0 := (hbr.cell (p := ⟨w.heap.size, 0, none⟩) (by simp; omega)).trans c2_0
        have b1 := (hbr.cell (p := ⟨w.heap.size, 1, none⟩) (by simp; omega)).trans c2_1
        have HN := Lib.hid (fun W => rnorm_any nd.size W)
        have hnb := norm_bd nd.size
        have e5 : normI nd.size = (loN (heldN nd.size) + hiN (heldN nd.size)) / 2 := rfl
        have z1 : 0 ≤ normI nd.size := by omega
        have z2 : normI nd.size ≤ 549755813888 := by omega
        have i1 : (0 : Int) ≤ (k : Int) := by omega
        have i2 : (k : Int) < (m : Int) := by omega
        have i3 : (0 : Int) ≤ (j : Int) := by omega
        have i4 : (j : Int) < (n : Int) := by omega
        have i5 : (depOf t j : Int) ≤ 6 := by omega
        have xz : xb < wr.heap.size := by omega
        have yz : yb < wr.heap.size := by omega
        have wz : w.heap.size < wr.heap.size := by omega
        rw [HLO.out] at HST
        generalize normI nd.size = nz at *
        generalize nd.size = sz at *
        generalize depOf t j = dj at *
        clear hj hnd n1 n2 n3 n4 n5 hat g1 g2 hown hbr hnb e5 xc yc
        go_wp2_with fail
        go_region_held3 (fun w' => w'.cell? ⟨xb, xo + k, none⟩ = some (.int .i64 (j : Int)) ∧ w'.cell? ⟨yb, yo + j, none⟩ = some (.int .i64 (dj : Int)) ∧ w'.cell? ⟨w.heap.size, 1, none⟩ = some (.slice (some ⟨b, o, none⟩) n cc) ∧ w'.cell? ⟨b, o + j * 5 + 4, none⟩ = some (.int .i64 sz)) (first | (go_simp; done) | (go_keep; done) | (refine ⟨?_, ?_, ?_, ?_⟩ <;> first | (go_simp; done) | (go_keep; done))) (first | (first | (go_at_call 91; refine (HN.out _).mono ?_; rintro e w5 ⟨rfl, dd, rfl⟩) | (refine app1_step rfl _ _ 27 rfl Try.underlying27 eiInt w2.heap.size (by rfl) HOWN.out (by rfl) rfl (by simp [Value.oneCell']) (by omega) (by omega) ?_; intro v6 w6 hown6 hb6; have OWN6 := Lib.hid hown6; have B6 := Lib.hid hb6; have f0 := (hb6.cell (p := ⟨xb, xo + k, none⟩) xl).trans ex; have f1 := (hb6.cell (p := ⟨yb, yo + j, none⟩) yl).trans ey; have f2 := (hb6.cell (p := ⟨w.heap.size, 1, none⟩) (by simp; omega)).trans b1; have f3 := (hb6.cell (p := ⟨b, o + j * 5 + 4, none⟩) (by simp; omega)).trans e4; clear hown6 hb6)))
        have HWR := Lib.hid (show IntKind.i64.wrap (IntKind.i64.wrap ((dj : Int) * 1073741824) + nz) = (dj : Int) * 1073741824 + nz by
          rw [i64_wrap (z := (dj : Int) * 1073741824) (by omega) (by omega), i64_wrap (by omega) (by omega)])
        go_wp2_with fail
        go_roundw
        case rel =>
          refine ⟨k + 1, by go_num, by omega, ?_, below_tr HBR.out (B6.out.mono (by omega))⟩
          have hown := OWN6.out
          rw [HWR.out] at hown
          first | (rw [HST.out, List.map_append]; exact hown) | (rw [← List.map_take, HST.out, List.map_append]; exact hown) | (rw [← List.map_take, HST.out, List.map_append, List.map_take]; exact hown)
        case measure => simp [intOf] <;> omega
      · obtain rfl : k = m := by omega
        have hlen2 : (lenL t).length = k := HLL.out
        rw [List.take_of_length_le (by omega)] at hown
        have i5 := Ints.own (l := lenL t) (by exact hown) (by omega)
        have I5 := Lib.hid i5.2
        clear hown hbr i5
        go_wp2_with fail
        go_ret
        exact ⟨_, rfl, I5.out, by (repeat (first | with_reducible exact Below.refl _ _ | with_reducible refine Bs ?_ | with_reducible refine Ba ?_ | with_reducible refine Bd ?_ | with_reducible refine Bn ?_ | with_reducible refine Bt HBR.out ?_ | with_reducible refine Bt B2.out ?_))⟩
end Go.Proofs.Ytdbonlpkmncggaa
