/-
  WoodA: Walk of wood.PutTree.
-/
import Derived.Test.YtgobbecpnjelmaaGreatJ2b
import Derived.Test.YtgobbecpnjelmaaGreatKTreeA
import Derived.Test.YtgobbecpnjelmaaGreatJ1a
import Derived.Test.YtgobbecpnjelmaaGreatJ0d
namespace Go.Proofs.YtgobbecpnjelmaaGreat
open Go.RowKit

theorem node_enc {t : TreeP} (h : IsTree t) {k : Nat} {n : NodeP} (hn : t.nodes[k]? = some n) :
  (n.left = 0 ∧ 1 ≤ n.size ∧ n.size ≤ 64) ∨ (n.left ≠ 0 ∧ n.coef.length ≤ 8 ∧ (∀ x ∈ n.coef, Ok64 x) ∧ Ok64 n.at_) := by
 obtain ⟨d, T, rfl, d1, d2, ho, hh⟩ := tree_BT h
 clear h
 suffices H : ∀ (T : BT) (p j : Nat) (n : NodeP), T.Ok d → (T.flat p)[j]? = some n → (n.left = 0 ∧ 1 ≤ n.size ∧ n.size ≤ 64) ∨ (n.left ≠ 0 ∧ n.coef.length ≤ 8 ∧ (∀ x ∈ n.coef, Ok64 x) ∧ Ok64 n.at_) from H T 0 k n ho hn
 intro T
 induction T with
 | leaf s =>
  intro p j n ho h
  cases j with
  | zero =>
   obtain rfl : (⟨[], 0, 0, 0, s⟩ : NodeP) = n := by simpa [BT.flat] using h
   have h1 := ho.1
   have h2 := ho.2
   exact .inl ⟨rfl, by show (1 : Int) ≤ s; omega, by show (s : Int) ≤ 64; omega⟩
  | succ j => simp [BT.flat] at h
 | node c a l r ih1 ih2 =>
  intro p j n ho h
  cases j with
  | zero =>
   obtain rfl : (⟨c, a, (p : Int) + 1, ((p + 1 + l.cnt : Nat) : Int), l.siz + r.siz⟩ : NodeP) = n := by simpa [BT.flat] using h
   have h1 := ho.1
   exact .inr ⟨by show (p : Int) + 1 ≠ 0; omega, by show c.length ≤ 8; omega, ho.2.1, ho.2.2.1⟩
  | succ j =>
   rw [BT.flat, List.getElem?_cons_succ] at h
   by_cases hj : j < l.cnt
   ·rw [List.getElem?_append_left (by rw [BT.flat_len]; exact hj)] at h
    exact ih1 _ _ _ ho.2.2.2.1 h
   ·rw [List.getElem?_append_right (by rw [BT.flat_len]; omega)] at h
    exact ih2 _ _ _ ho.2.2.2.2 h

theorem putsI_len {i : Int} : (putsI i).length ≤ 9 := putsU_len

theorem encs_len {t : TreeP} (h : IsTree t) (k : Nat) : ((t.nodes.take k).flatMap encN).length ≤ 127 * 91 := by
 have hl := h.len
 have H : ∀ l : List NodeP, (∀ n ∈ l, (encN n).length ≤ 91) → (l.flatMap encN).length ≤ l.length * 91 := by
  intro l
  induction l with
  | nil => intro _; simp
  | cons n l ih =>
   intro hn
   rw [List.flatMap_cons, List.length_append, List.length_cons]
   have := hn n (by simp)
   have := ih fun m hm => hn m (by simp [hm])
   omega
 have := H (t.nodes.take k) fun n hn => by
  obtain ⟨j, hj⟩ := List.getElem?_of_mem (List.mem_of_mem_take hn)
  have := putsU_len (n := n.size.toNat)
  have := putsIs_len n.coef
  have := putsI_len (i := n.at_)
  unfold encN
  rcases node_enc h hj with ⟨h1, _⟩ | ⟨h1, h2, _⟩
  ·rw [if_pos h1]; omega
  ·rw [if_neg h1, List.length_cons, List.length_append]; omega
 rw [List.length_take] at this
 omega

theorem u64_small {z : Nat} (h : z ≤ 1099511627776) : IntKind.u64.wrap (z : Int) = (z : Int) := by
 simp [IntKind.wrap, IntKind.signed, IntKind.bits]
 omega

theorem OwnB.lower {w : World} {B C : Nat} {v : Value} {l : List Int} (h : OwnB w B v l) (hC : C ≤ B) : OwnB w C v l := by
 refine ⟨h.1, ?_⟩
 rcases h.2 with h1 | ⟨g, cap, cur, e, h2, h3⟩
 ·exact .inl h1
 ·exact .inr ⟨g, cap, cur, e, Nat.le_trans hC h2, h3⟩

/-- Append of bytes to bytes of the call's own. -/
theorem appBW {ops : Array Oper} {rest : List Oper} {o : Oper} {a : Act} {Q : Exit → Act → World → Prop} (hgd : o.guard = none) (s x : Operand)
  (ho : o.op = .call { callee := .builtin .append, args := #[s, x], argTypes := #[45, 45] })
  (base : Nat) {v : Value} {l l2 : List Int} {W : World} {vx : Value} (hs : a.eval s = v) (hown : OwnB W base v l) (hx : a.eval x = vx) (hl : Ints .u8 W vx l2) (hb : l.length + l2.length ≤ 1000000) (hbase : base ≤ W.heap.size)
  (h : ∀ v' w', OwnB w' base v' (l ++ l2) → Below base W w' → W.grownBy w' v.ownBlock → NewB W v v' → wpList Tryz.prog ops Q rest (a.put o.dst v') w') : wpList Tryz.prog ops Q (o :: rest) a W := by
 obtain ⟨ad, c, rfl, _, _, _, h4⟩ := hl
 refine appS hgd s x 45 ho Tryz.underlying45 eiU8 base hs hown (ad := ad) (m := l2.length) (c := c) (ys := l2.map (Value.int .u8)) hx (by simp) (fun j u hu => ?_) (fun u hu => ?_) (by omega) hbase fun v' w' h1 h2 h3 => ?_
 ·rw [List.getElem?_map] at hu
  cases hy : l2[j]? with
  | none => rw [hy] at hu; cases hu
  | some y =>
   rw [hy] at hu
   obtain ⟨b, o, e, _, hc⟩ := h4 j y hy
   exact ⟨b, o, e, by rw [hc]; simpa using hu⟩
 ·obtain ⟨y, _, rfl⟩ := List.mem_map.1 hu
  rfl
 ·refine h v' w' (by simpa [OwnB] using h1) ((Below.refl _ _).grown h2 hbase fun k hk => (hown.lt k hk).1) h2 h3

theorem NewB.ne {W : World} {v v' : Value} (h : NewB W v v') {N : Nat} (h1 : v.ownBlock ≠ some N) (h2 : N < W.heap.size) : v'.ownBlock ≠ some N := fun e => by
 rcases h with h | ⟨b, h, hb⟩
 ·exact h1 (by rw [← h]; exact e)
 ·rw [h] at e
  injection e with e
  omega

theorem encN_leaf {n : NodeP} (h : n.left = 0) : encN n = putsU n.size.toNat := by unfold encN; rw [if_pos h]

theorem encN_node {n : NodeP} (h : n.left ≠ 0) : encN n = 0 :: (putsIs n.coef ++ putsI n.at_) := by unfold encN; rw [if_neg h]

theorem putsIs_take {c : List Int} {j : Nat} {x : Int} (h : c[j]? = some x) : putsIs (c.take (j + 1)) = putsIs (c.take j) ++ putsI x := by
 rw [List.take_add_one, h]
 exact putsIs_snoc _ _

set_option maxRecDepth 100000 in
set_option maxHeartbeats 8000000 in
theorem putTree_any (vb : Value) (b : List Int) (v : Value) (t : TreeP) (w : World) (hvb : Ints .u8 w vb b) (hbl : b.length ≤ 800000) (h : TreeR w v t) :
  Calls Tryz.prog 93 #[vb, v] w fun e w' => ∃ v', e = .returned v' ∧ OwnB w' w.heap.size v' (b ++ treeBy t) ∧ Below w.heap.size w w' := by
 have HVB := hH hvb
 have HTR := hH h
 obtain ⟨nv, rfl, hn⟩ := h
 have hn' := hn
 obtain ⟨ad, cc, rfl, _⟩ := hn'
 obtain ⟨n, hnn⟩ : ∃ n, t.nodes.length = n := ⟨_, rfl⟩
 have HN := hH hnn
 obtain ⟨D, hD⟩ : ∃ D, t.dim = D := ⟨_, rfl⟩
 have HD := hH hD
 have HNR := hH hn
 rw [hnn, hD] at HTR
 rw [hnn] at HNR
 rw [hnn, hD]
 clear hn
 cases hB : treeB t with
 | false =>
  have HC := hH (fun W (hW : TreeR W (.agg #[.int .i64 D, .slice ad n cc]) t) => hB ▸ tis_any _ t W hW)
  have HE := hH (show treeBy t = [] by unfold treeBy; rw [hB]; rfl)
  clear hB hnn hD
  go_enter Tryz.func93, Tryz.ntmps93
  go_wp2_with fail
  (with_reducible refine (clone8_any _ b _ (HVB.out.below bw) (by omega)).mono ?_)
  rintro e w1 ⟨v1, rfl, o1, b1⟩
  have O1 := hH (show OwnB w1 (w.heap.size + 1) v1 b by simpa [OwnB] using o1)
  have k0 : w1.cell? ⟨w.heap.size, 0, none⟩ = some (.int .i64 D) := (b1.cell (p := ⟨w.heap.size, 0, none⟩) (by simp)).trans (by go_simp)
  have k1 : w1.cell? ⟨w.heap.size, 1, none⟩ = some (.slice ad n cc) := (b1.cell (p := ⟨w.heap.size, 1, none⟩) (by simp)).trans (by go_simp)
  have B1 := hH (show Below w.heap.size w w1 from below_tr bw (b1.mono (by simp)))
  obtain ⟨a1, n1, c1, rfl⟩ := own_shape o1
  clear b1 o1
  go_wp2_with fail
  (with_reducible refine (HC.out _ (HTR.out.below B1.out)).mono ?_)
  rintro e w2 ⟨rfl, b2⟩
  have B2 := hH (show Below w.heap.size w w2 from B1.out.trans (b2.mono B1.out.size))
  have O2 := hH (O1.out.below b2)
  clear b2
  go_wp2_with fail
  go_ret
  exact ⟨_, rfl, by rw [HE.out, List.append_nil]; exact OwnB.lower O2.out (by omega), B2.out⟩
 | true =>
  have HC := hH (fun W (hW : TreeR W (.agg #[.int .i64 D, .slice ad n cc]) t) => hB ▸ tis_any _ t W hW)
  have ht := treeB_true.1 hB
  have HT := hH ht
  have hd1 := ht.1
  have hd2 := ht.2.1
  have hlen := ht.len
  rw [hD] at hd1 hd2
  rw [hnn] at hlen
  obtain ⟨D, rfl⟩ : ∃ k : Nat, D = (k : Int) := ⟨Int.toNat D, by omega⟩
  have HE := hH (show treeBy t = putsU D ++ t.nodes.flatMap encN by unfold treeBy; rw [hB, hD]; rfl)
  have hud := u64_small (z := D) (by omega)
  have hDn : (D : Int) ≤ 18446744073709551615 := by omega
  have hnb : (n : Int) ≤ 127 := by omega
  have hpl := putsU_len (n := D)
  clear hB hnn hD ht
  go_enter Tryz.func93, Tryz.ntmps93
  go_wp2_with fail
  (with_reducible refine (clone8_any _ b _ (HVB.out.below bw) (by omega)).mono ?_)
  rintro e w1 ⟨v1, rfl, o1, b1⟩
  have O1 := hH (show OwnB w1 (w.heap.size + 1) v1 b by simpa [OwnB] using o1)
  have k0 : w1.cell? ⟨w.heap.size, 0, none⟩ = some (.int .i64 D) := (b1.cell (p := ⟨w.heap.size, 0, none⟩) (by simp)).trans (by go_simp)
  have k1 : w1.cell? ⟨w.heap.size, 1, none⟩ = some (.slice ad n cc) := (b1.cell (p := ⟨w.heap.size, 1, none⟩) (by simp)).trans (by go_simp)
  have B1 := hH (show Below w.heap.size w w1 from below_tr bw (b1.mono (by simp)))
  have s1 : w.heap.size + 1 ≤ w1.heap.size := by have := b1.size; simpa using this
  obtain ⟨a1, n1, c1, rfl⟩ := own_shape o1
  clear b1 o1
  go_wp2_with fail
  (with_reducible refine (HC.out _ (HTR.out.below B1.out)).mono ?_); rintro e w2 ⟨rfl, b2⟩; have s2 : w1.heap.size ≤ w2.heap.size := sz b2; have B2 := bJ B1.out b2; obtain ⟨c2_0, c2_1⟩ := k2 (w.heap.size) (.int .i64 D) (.slice ad n cc) b2 aJ; obtain ⟨l2_0, n2_0, m2_0⟩ := lnm (show w.heap.size < w2.heap.size by omega); have O1 := hH ((O1.out.below bw).below b2); clear b2
  go_wp2_with fail
  (with_reducible refine (putU_any _ b D _ (O1.out.ints (by omega)) (by omega) hDn).mono ?_)
  rintro e w3 ⟨v3, rfl, o3, b3⟩
  have O3 := hH o3
  have B3 := hH (show Below w.heap.size w w3 from B2.out.trans (b3.mono (by omega)))
  have s3 : w2.heap.size ≤ w3.heap.size := b3.size
  have k0 : w3.cell? ⟨w.heap.size, 0, none⟩ = some (.int .i64 D) := (b3.cell (p := ⟨w.heap.size, 0, none⟩) (show w.heap.size < w2.heap.size by omega)).trans c2_0
  have k1 : w3.cell? ⟨w.heap.size, 1, none⟩ = some (.slice ad n cc) := (b3.cell (p := ⟨w.heap.size, 1, none⟩) (show w.heap.size < w2.heap.size by omega)).trans c2_1
  obtain ⟨a3, n3, c3, rfl⟩ := own_shape o3
  have b3_ := hH b3
  clear b3 o3
  have BB := hH (show ∀ k, (b ++ putsU D ++ (t.nodes.take k).flatMap encN).length ≤ 900000 from fun k => by
   have := encs_len HT.out k
   simp only [List.length_append]
   omega)
  go_wp2_with fail
  go_loopw [5, 7, 9, 24, 42, 43, 44] (fun o _ _ idx _ _ _ wr => ∃ k : Nat, idx = .int .i64 k ∧ k ≤ n ∧ OwnB wr w2.heap.size o ((b ++ putsU D) ++ (t.nodes.take k).flatMap encN) ∧ Below w2.heap.size w2 wr) (fun _ _ _ idx _ _ _ _ => n - (intOf idx).toNat)
  case atStart => exact ⟨0, rfl, by omega, by simpa using O3.out, (show Below w2.heap.size w2 w3 from b3_.out)⟩
  case round =>
   obtain ⟨k, rfl, hk, hown, hbr⟩ := hrel
   rename World => wo
   have BR := hH hbr
   have hz := hbr.size
   have BRW := hH (show Below w.heap.size w wo from B2.out.trans (hbr.mono B2.out.size))
   have k0 := (hbr.cell (p := ⟨w.heap.size, 0, none⟩) (show w.heap.size < w2.heap.size by omega)).trans c2_0
   have k1 := (hbr.cell (p := ⟨w.heap.size, 1, none⟩) (show w.heap.size < w2.heap.size by omega)).trans c2_1
   have hwz : w.heap.size < wo.heap.size := by omega
   have HO := hH hown
   obtain ⟨oa, om, oc, rfl⟩ := own_shape hown
   clear hown hbr
   by_cases hlt : k < n
   ·obtain ⟨nd, hnd⟩ := getElem?_ex (l := t.nodes) (k := k) (by rw [HN.out]; exact hlt)
    obtain ⟨b0, o0, rfl⟩ := HTR.out.addr (i := k) (by rw [HN.out]; exact hlt)
    obtain ⟨hb0, hat⟩ := (HTR.out).node hnd
    obtain ⟨ca, cac, hci, e0, e1, e2, e3, e4⟩ := hat.val
    have e0 := (BRW.out.cell (p := ⟨b0, o0 + k * 5, none⟩) hb0).trans e0
    have e1 := (BRW.out.cell (p := ⟨b0, o0 + k * 5 + 1, none⟩) hb0).trans e1
    have e2 := (BRW.out.cell (p := ⟨b0, o0 + k * 5 + 2, none⟩) hb0).trans e2
    have e3 := (BRW.out.cell (p := ⟨b0, o0 + k * 5 + 3, none⟩) hb0).trans e3
    have e4 := (BRW.out.cell (p := ⟨b0, o0 + k * 5 + 4, none⟩) hb0).trans e4
    have HCI := hH hci
    have HTK := hH (show (t.nodes.take (k + 1)).flatMap encN = (t.nodes.take k).flatMap encN ++ encN nd by rw [List.take_add_one, hnd, List.flatMap_append]; simp)
    have hne := node_enc HT.out hnd
    have LB := BB.out k
    have i1 : (0 : Int) ≤ (k : Int) := by omega
    have i2 : (k : Int) < (n : Int) := by omega
    have hby : b0 ≠ wo.heap.size := by have := BRW.out.size; omega
    have hbz : b0 < wo.heap.size := by have := BRW.out.size; omega
    obtain ⟨XS, hXS⟩ : ∃ XS, (b ++ putsU D) ++ (t.nodes.take k).flatMap encN = XS := ⟨_, rfl⟩
    have HXS := hH hXS
    rw [hXS] at HO LB
    clear hci hnd hat hXS
    rcases hne with ⟨l1, l2, l3⟩ | ⟨l1, l2, l3, l4⟩
    ·have HEN := hH (encN_leaf l1)
     rw [l1] at e2
     obtain ⟨s, hs⟩ : ∃ s : Nat, nd.size = (s : Int) := ⟨nd.size.toNat, by omega⟩
     rw [hs] at e4 HEN l3
     rw [Int.toNat_natCast] at HEN
     have hus := u64_small (z := s) (by omega)
     have hs2 : (s : Int) ≤ 18446744073709551615 := by omega
     have hps := putsU_len (n := s)
     generalize nd.coef.length = cl at *
     generalize nd.at_ = xa at *
     generalize nd.right = xr at *
     clear l1 l2 l3 hs HCI
     go_wp2_with fail
     (with_reducible refine (putU_any (.slice none 0 0) [] s _ (ints_nil _ _ _ _ (by omega)) (by simp) hs2).mono ?_)
     rintro e w4 ⟨v4, rfl, o4, b4⟩
     have O4 := hH (show OwnB w4 _ v4 (putsU s) from by simpa using o4)
     have B4 := hH (show Below wo.heap.size wo w4 from below_tr bw (b4.mono mJ))
     have z4 := B4.out.size
     obtain ⟨a4, m4, c4, rfl⟩ := own_shape o4
     clear b4 o4
     go_wp2_with (at_builtin; go_must (refine appInts rfl _ _ 45 rfl Tryz.underlying45 eiU8 w2.heap.size (by rfl) (HO.out.below B4.out) (by rfl) (O4.out.ints (by omega)) (by omega) (by omega) ?_))
     intro v5 w5 o5 b5 _
     have O5 := hH (show OwnB w5 w2.heap.size v5 (XS ++ putsU s) by simpa [OwnB, HXS.out] using o5)
     have B5 := hH (show Below w2.heap.size w2 w5 from (BR.out.trans (B4.out.mono hz)).trans b5)
     clear o5 b5
     go_wp2_with fail
     go_roundw
     case rel => exact ⟨k + 1, by go_num, by omega, by rw [HTK.out, HEN.out, ← List.append_assoc, HXS.out]; exact O5.out, B5.out⟩
     case measure => simp [intOf] <;> omega
    ·have HEN := hH (encN_node l1)
     have j1 : (nd.left == 0) = false := by rw [beq_eq_false_iff_ne]; exact l1
     obtain ⟨cs, hcs⟩ : ∃ cs, nd.coef = cs := ⟨_, rfl⟩
     rw [hcs] at e0 HCI HEN l2 l3
     have HC64 := hH l3
     obtain ⟨xa, hxa⟩ : ∃ z, nd.at_ = z := ⟨_, rfl⟩
     rw [hxa] at e1 HEN l4
     have HA64 := hH l4
     obtain ⟨cl, hcl⟩ : ∃ cl, cs.length = cl := ⟨_, rfl⟩
     have HCL := hH hcl
     rw [hcl] at e0 HCI l2
     generalize nd.left = xl at *
     generalize nd.right = xr at *
     generalize nd.size = xs at *
     clear l1 l3 l4 hcs hxa hcl
     have NOW := hH (show (Value.slice oa om oc).ownBlock ≠ some wo.heap.size from fun e => by have := (HO.out.lt _ e).2; omega)
     go_wp2_with (at_builtin; go_must (refine app1N rfl _ _ 45 rfl Tryz.underlying45 eiU8 w2.heap.size (by rfl) (HO.out.below bw) (by rfl) (by first | rfl | simp) rfl (by simp [Value.oneCell']) (by omega) mJ ?_))
     intro v5 w5 o5 g5 nb5
     have O5 := hH (show OwnB w5 w2.heap.size v5 (XS ++ [0]) by simpa [OwnB] using o5)
     have NV5 := hH (nb5.ne NOW.out (by simp))
     have y0 : w5.cell? ⟨wo.heap.size, 0, none⟩ = some (.slice ca cl cac) := (gcell g5 (by simp) NOW.out).trans (by go_simp)
     have y1 : w5.cell? ⟨wo.heap.size, 1, none⟩ = some (.int .i64 xa) := (gcell g5 (by simp) NOW.out).trans (by go_simp)
     have B5 := hH (show Below w2.heap.size w2 w5 from BR.out.trans ((show Below w2.heap.size wo _ from bw).grown g5 mJ (fun q hq => (HO.out.lt q hq).1)))
     have z5 : wo.heap.size < w5.heap.size := by have := g5.size; simp at this; omega
     obtain ⟨a5, m5, c5, rfl⟩ := own_shape o5
     clear o5 g5 nb5
     go_wp2_with fail
     go_loopw [5, 9, 44] (fun oi_ _ idx wr => ∃ j : Nat, idx = .int .i64 j ∧ j ≤ cl ∧ OwnB wr w2.heap.size oi_ (XS ++ [0] ++ putsIs (cs.take j)) ∧ oi_.ownBlock ≠ some wo.heap.size ∧ wr.cell? ⟨wo.heap.size, 0, none⟩ = some (.slice ca cl cac) ∧ wr.cell? ⟨wo.heap.size, 1, none⟩ = some (.int .i64 xa) ∧ Below w2.heap.size w2 wr ∧ wo.heap.size < wr.heap.size) (fun _ _ idx _ => cl - (intOf idx).toNat)
     case atStart => exact ⟨0, rfl, by omega, by rw [List.take_zero, show putsIs [] = [] from rfl, List.append_nil]; exact O5.out, NV5.out, y0, y1, B5.out, z5⟩
     case round =>
      obtain ⟨j, rfl, hj, ho, hnb, y0, y1, hbi, hzi⟩ := hrel
      have hci := HCI.out.below (show Below w.heap.size w wr from B2.out.trans (hbi.mono B2.out.size))
      have HOI := hH ho
      have HNB := hH hnb
      have BI := hH hbi
      obtain ⟨oa2, om2, oc2, rfl⟩ := own_shape ho
      have hpl2 := putsIs_len (cs.take j)
      have hjl : (cs.take j).length ≤ 8 := by rw [List.length_take]; omega
      have hzz := hbi.size
      have k0 := (hbi.cell (p := ⟨w.heap.size, 0, none⟩) (show w.heap.size < w2.heap.size by omega)).trans c2_0
      have k1 := (hbi.cell (p := ⟨w.heap.size, 1, none⟩) (show w.heap.size < w2.heap.size by omega)).trans c2_1
      by_cases hlj : j < cl
      ·obtain ⟨x, hx⟩ := getElem?_ex (l := cs) (k := j) (by rw [HCL.out]; exact hlj)
       have hx64 := HC64.out x (List.mem_of_getElem? hx)
       have HPT := hH (putsIs_take hx)
       have hpx := putsI_len (i := x)
       have i3 : (0 : Int) ≤ (j : Int) := by omega
       have i4 : (j : Int) < (cl : Int) := by omega
       obtain ⟨a', c', e, _, _, _, h4⟩ := hci
       injection e with e1 e2 e3
       subst e1 e3
       clear e2
       obtain ⟨bx, ox, rfl, hbx, hcx⟩ := h4 j x hx
       clear ho hnb hbi hx h4
       go_wp2_with fail
       (with_reducible refine (putI_any (.slice none 0 0) [] x _ (ints_nil _ _ _ _ (by omega)) (by simp) hx64).mono ?_)
       rintro e w6 ⟨v6, rfl, o6, b6⟩
       have O6 := hH (show OwnB w6 _ v6 (putsI x) from by simpa using o6)
       have B6 := hH (show Below wr.heap.size wr w6 from b6)
       have z6 := b6.size
       have y0 := (b6.cell (p := ⟨wo.heap.size, 0, none⟩) hzi).trans y0
       have y1 := (b6.cell (p := ⟨wo.heap.size, 1, none⟩) hzi).trans y1
       obtain ⟨a6, m6, c6, rfl⟩ := own_shape o6
       clear b6 o6
       go_wp2_with (at_builtin; go_must (refine appBW rfl _ _ rfl w2.heap.size (by rfl) (HOI.out.below B6.out) (by rfl) (O6.out.ints (by omega)) (by simp only [List.length_append, List.length_singleton]; omega) (by omega) ?_))
       intro v7 w7 o7 b7 g7 nb7
       have O7 := hH (show OwnB w7 w2.heap.size v7 (XS ++ [0] ++ putsIs (cs.take (j + 1))) by rw [HPT.out]; simpa [List.append_assoc] using o7)
       have NB7 := hH (nb7.ne HNB.out (by omega))
       have B7 := hH (show Below w2.heap.size w2 w7 from (BI.out.trans (B6.out.mono hzz)).trans b7)
       have y0 := (gcell g7 (show wo.heap.size < w6.heap.size by omega) HNB.out).trans y0
       have y1 := (gcell g7 (show wo.heap.size < w6.heap.size by omega) HNB.out).trans y1
       have z7 := g7.size
       clear o7 b7 g7 nb7
       go_wp2_with fail
       go_roundw
       case rel => exact ⟨j + 1, by go_num, by omega, O7.out, NB7.out, y0, y1, B7.out, by omega⟩
       case measure => simp [intOf] <;> omega
      ·obtain rfl : j = cl := by omega
       rw [List.take_of_length_le (by rw [HCL.out]; omega)] at HOI hpl2 hjl
       have hpa := putsI_len (i := xa)
       clear ho hnb hbi hci
       go_wp2_with fail
       (with_reducible refine (putI_any (.slice none 0 0) [] xa _ (ints_nil _ _ _ _ (by omega)) (by simp) HA64.out).mono ?_)
       rintro e w6 ⟨v6, rfl, o6, b6⟩
       have O6 := hH (show OwnB w6 _ v6 (putsI xa) from by simpa using o6)
       have B6 := hH (show Below wr.heap.size wr w6 from b6)
       have z6 := b6.size
       obtain ⟨a6, m6, c6, rfl⟩ := own_shape o6
       clear b6 o6
       go_wp2_with (at_builtin; go_must (refine appBW rfl _ _ rfl w2.heap.size (by rfl) (HOI.out.below B6.out) (by rfl) (O6.out.ints (by omega)) (by simp only [List.length_append, List.length_singleton]; omega) (by omega) ?_))
       intro v7 w7 o7 b7 g7 nb7
       have O7 := hH (show OwnB w7 w2.heap.size v7 (XS ++ encN nd) by rw [HEN.out]; simpa [List.append_assoc] using o7)
       have B7 := hH (show Below w2.heap.size w2 w7 from (BI.out.trans (B6.out.mono hzz)).trans b7)
       clear o7 b7 g7 nb7
       go_wp2_with fail
       go_roundw
       case rel => exact ⟨k + 1, by go_num, by omega, by rw [HTK.out, ← List.append_assoc, HXS.out]; exact O7.out, B7.out⟩
       case measure => simp [intOf] <;> omega
   ·obtain rfl : k = n := by omega
    rw [List.take_of_length_le (by rw [HN.out]; omega)] at HO
    go_wp2_with fail
    go_ret
    exact ⟨_, rfl, by rw [HE.out]; rw [← List.append_assoc]; exact OwnB.lower HO.out B2.out.size, BRW.out⟩

end Go.Proofs.YtgobbecpnjelmaaGreat
