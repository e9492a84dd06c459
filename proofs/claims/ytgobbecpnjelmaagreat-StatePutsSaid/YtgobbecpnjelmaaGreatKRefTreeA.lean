/-
  RefTreeA: Walks of copseref10: End (the place behind the nodes that come of one), Is.
-/
import Derived.Test.YtgobbecpnjelmaaGreatJ0b
import Derived.Test.YtgobbecpnjelmaaGreatJ0c
namespace Go.Proofs.YtgobbecpnjelmaaGreat
open Go.RowKit


set_option maxRecDepth 100000 in
set_option maxHeartbeats 4000000 in
theorem rend_any (t : TreeP) : ∀ (d i : Nat) (v : Value) (w : World), TreeR w v t → d ≤ 7 → i ≤ 140737488351232 →
  Calls Tryz.prog 143 #[v, .int .i64 i, .int .i64 ((d : Int) - 1)] w fun e w' => e = .returned (.int .i64 (endV t d i)) ∧ Below w.heap.size w w' := by
 intro d
 induction d with
 | zero =>
  intro i v w h _ hi
  have G := endV_no (t := t) (d := 0) (i := i) (fun e s q => nomatch q)
  rw [G]
  obtain ⟨nv, rfl, ad, cc, rfl, _, _, q3, _⟩ := h
  have e1 : ((0 : Nat) : Int) - 1 = -1 := rfl
  rw [e1]
  clear G e1
  generalize t.dim = D at *
  generalize t.nodes.length = n at *
  by_cases a1 : i < n
  ·have j1 : decide (n ≤ i) = false := by simp; omega
   go_enter Tryz.func143, Tryz.ntmps143
   go_wp2_with fail
   go_ret
   exact ⟨rfl, bw⟩
  ·have j1 : decide (n ≤ i) = true := by simp; omega
   go_enter Tryz.func143, Tryz.ntmps143
   go_wp2_with fail
   go_ret
   exact ⟨rfl, bw⟩
 | succ d ih =>
  intro i v w h hd hi
  have HT := hH h
  have HIH := hH (fun (j : Nat) W (hW : TreeR W v t) (hj : j ≤ 140737488351232) => ih j v W hW (by omega) hj)
  obtain ⟨nv, rfl, ad, cc, rfl, _, _, q3, hcell⟩ := h
  obtain ⟨V, hV⟩ : ∃ V, endV t (d + 1) i = V := ⟨_, rfl⟩
  rw [hV, show (((d + 1 : Nat) : Int) - 1) = d by omega]
  have HV := hH hV
  have HD := hH (rfl : t.dim = t.dim)
  clear ih hV
  obtain ⟨n, hn⟩ : ∃ n, t.nodes.length = n := ⟨_, rfl⟩
  rw [hn] at q3 HT HIH ⊢
  have HL := hH hn
  clear hn
  by_cases a1 : i < n
  ·have j1 : decide (n ≤ i) = false := by simp; omega
   obtain ⟨nd, hnd⟩ := getElem?_ex (l := t.nodes) (k := i) (by rw [HL.out]; exact a1)
   obtain ⟨b, o, rfl, hb, hat⟩ := hcell i nd hnd
   obtain ⟨ca, ccc, hci, e0, e1, e2, e3, e4⟩ := hat.val
   have HCI := hH hci
   have HND := hH hnd
   have HCELL := hH (show ∀ j nd, t.nodes[j]? = some nd → NodeAt w b (o + j * 5) nd from fun j nd hj => by
    obtain ⟨b', o', e, _, hc⟩ := hcell j nd hj
    injection e with e
    injection e with e1 e2 e3
    subst e1 e2
    exact hc)
   have HCU := hH (fun W (hW : Ints .i64 W (.slice ca nd.coef.length ccc) nd.coef) => rcis_any _ nd.coef nd.at_ t.dim W hW)
   have KK := hH (show ∀ e s, SubD t (d + 1) i e s → _ from fun e s q => q.inv HND.out)
   have KL := hH (show leafB nd = true → nd.size ≤ 64 → V = ((i + 1 : Nat) : Int) from fun h1 h2 => by rw [← HV.out]; exact endV_yes (.leaf HND.out h1 h2))
   have KN := hH (show nd.left = (i : Int) + 1 → cutB nd.coef nd.at_ t.dim = true → ∀ {m e : Nat} {x y : Int}, SubD t d (i + 1) m x → nd.right = (m : Int) → SubD t d m e y → nd.size = x + y → V = (e : Int) from fun g1 g2 m e x y g3 g4 g5 g6 => by
    rw [← HV.out]; exact endV_yes (.node HND.out g1 g2 g3 g4 g5 g6))
   have KV := hH (show (∀ e s, ¬ SubD t (d + 1) i e s) → V = -1 from fun h => by rw [← HV.out]; exact endV_no h)
   have hlf := leafB_at (n := nd)
   have HLF := hH hlf
   obtain ⟨CU, hcu⟩ : ∃ CU, cutB nd.coef nd.at_ t.dim = CU := ⟨_, rfl⟩
   rw [hcu] at HCU KN KK
   obtain ⟨LB, hlb⟩ : ∃ LB, leafB nd = LB := ⟨_, rfl⟩
   rw [hlb] at KK KL HLF
   clear hnd hat hci hcell hlf hcu hlb HV
   have hb2 : b < w.heap.size := hb
   generalize nd.at_ = xat at *
   generalize nd.left = xl at *
   generalize nd.right = xr at *
   generalize nd.size = xz at *
   generalize nd.coef.length = cl at *
   generalize t.dim = D at *
   have i1 : (0 : Int) ≤ i := by omega
   have i2 : (i : Int) < n := by omega
   have i3 : (i : Int) ≤ 140737488351232 := by omega
   clear HD
   by_cases g1 : xl = 0 ∧ xr = 0
   ·obtain ⟨rfl, rfl⟩ := g1
    by_cases g3 : cl = 0
    ·subst g3
     by_cases g4 : xat = 0
     ·subst g4
      by_cases g5 : 1 ≤ xz
      ·by_cases g6 : xz ≤ 64
       ·have G := hH (KL.out (by rw [HLF.out]; simp [g5]) g6)
        have j6 : decide (64 < xz) = false := by simp; omega
        have j5 : decide (xz < 1) = false := by simp; omega
        go_enter Tryz.func143, Tryz.ntmps143
        go_wp2_with fail
        go_ret
        exact ⟨ret_int (by rw [G.out]; omega), bw⟩
       ·have G := hH (KV.out fun e s q => by rcases KK.out e s q with ⟨_, h, _⟩ | ⟨m, x, y, h, _⟩ <;> omega)
        go_enter Tryz.func143, Tryz.ntmps143
        go_wp2_with fail
        go_ret
        exact ⟨by rw [G.out]; rfl, bw⟩
      ·have G := hH (KV.out fun e s q => by rcases KK.out e s q with ⟨h, _, _⟩ | ⟨m, x, y, h, _⟩; (rw [HLF.out] at h; simp at h; omega); omega)
       go_enter Tryz.func143, Tryz.ntmps143
       go_wp2_with fail
       go_ret
       exact ⟨by rw [G.out]; rfl, bw⟩
     ·have G := hH (KV.out fun e s q => by rcases KK.out e s q with ⟨h, _, _⟩ | ⟨m, x, y, h, _⟩; (rw [HLF.out] at h; simp at h; omega); omega)
      have j4 : (xat != 0) = true := by simp [g4]
      clear g4
      go_enter Tryz.func143, Tryz.ntmps143
      go_wp2_with fail
      go_ret
      exact ⟨by rw [G.out]; rfl, bw⟩
    ·have G := hH (KV.out fun e s q => by rcases KK.out e s q with ⟨h, _, _⟩ | ⟨m, x, y, h, _⟩; (rw [HLF.out] at h; simp at h; omega); omega)
     have j3 : (0 : Int) < cl := by omega
     go_enter Tryz.func143, Tryz.ntmps143
     go_wp2_with fail
     go_ret
     exact ⟨by rw [G.out]; rfl, bw⟩
   ·have HNL := hH (show LB = false from by rw [HLF.out]; by_cases h1 : xl = 0 <;> by_cases h2 : xr = 0 <;> simp [h1, h2] <;> (exfalso; exact g1 ⟨h1, h2⟩))
    have K2 := hH (show ∀ e s, SubD t (d + 1) i e s → _ from fun e s q => (KK.out e s q).resolve_left (fun h => by rw [HNL.out] at h; cases h.1))
    by_cases g2 : xl = (i : Int) + 1
    ·subst g2
     have J3 := hH (show (((i : Int) + 1) == 0) = false by simp; omega)
     have J2 := hH (show (((i : Int) + 1) != (i : Int) + 1) = false by simp)
     have HI1 := hH (show ∀ W, TreeR W _ t → _ from fun W hW => (show ((i + 1 : Nat) : Int) = (i : Int) + 1 by omega) ▸ HIH.out (i + 1) W hW (by omega))
     clear g1
     cases CU with
     | false =>
      have G := hH (KV.out fun e s q => by obtain ⟨m, x, y, _, h, _⟩ := K2.out e s q; cases h)
      have j2 := J2.out
      have j3 := J3.out
      go_enter Tryz.func143, Tryz.ntmps143
      go_wp2_with fail
      (with_reducible refine (HCU.out _ (HCI.out.below bw)).mono ?_); rintro e w1 ⟨rfl, b1⟩; have s1 : w.heap.size + 2 ≤ w1.heap.size := sz b1; have B1 := hJ w b1; obtain ⟨c1_0, c1_1⟩ := k2 (w.heap.size) (.int .i64 D) (.slice (some ⟨b, o, none⟩) n cc) b1 aJ; obtain ⟨c1_2, c1_3, c1_4, c1_5, c1_6⟩ := k5 (w.heap.size + 1) (.slice ca cl ccc) (.int .i64 xat) (.int .i64 ((i : Int) + 1)) (.int .i64 xr) (.int .i64 xz) b1 aJ; obtain ⟨l1_0, n1_0, m1_0⟩ := lnm (show w.heap.size < w1.heap.size by omega); obtain ⟨l1_1, n1_1, m1_1⟩ := lnm (show w.heap.size + 1 < w1.heap.size by omega); clear b1
      go_wp2_with fail
      go_ret
      exact ⟨by rw [G.out]; rfl, bx B1.out⟩
     | true =>
      by_cases hq1 : ∃ m x, SubD t d (i + 1) m x
      ·obtain ⟨m, x, hm⟩ := hq1
       have hml : m ≤ n := by obtain ⟨_, _, q⟩ := hm.sub; have := q.lt; have := HL.out; omega
       have HM := hH hm
       rw [endV_yes hm] at HI1
       clear hm
       by_cases g4 : xr = (m : Int)
       ·subst g4
        have HI2 := hH (fun W hW => HIH.out m W hW (by omega))
        have J4 := hH (show ((m : Int) != (m : Int)) = false by simp)
        by_cases hq2 : ∃ e y, SubD t d m e y
        ·obtain ⟨e, y, he⟩ := hq2
         rw [endV_yes he] at HI2
         have HE := hH he
         obtain ⟨nx, hnx, hnxs⟩ := HM.out.at_
         obtain ⟨ny, hny, hnys⟩ := he.at_
         obtain ⟨_, _, _, _, _, _, _, k4⟩ := (HCELL.out (i + 1) nx hnx).val
         obtain ⟨_, _, _, _, _, _, _, l4⟩ := (HCELL.out m ny hny).val
         rw [hnxs] at k4
         rw [hnys] at l4
         have bxq := HM.out.small (by omega)
         have bY := he.small (by omega)
         have hin : (i : Int) + 1 < n := by obtain ⟨_, _, q⟩ := HM.out.sub; have := q.lt; have := HL.out; omega
         have hmn : (m : Int) < n := by obtain ⟨_, _, q⟩ := he.sub; have := q.lt; have := HL.out; omega
         have hm0 : (0 : Int) ≤ m := by omega
         have J5 := hH (show decide ((e : Int) < 0) = false from decide_eq_false (by omega))
         clear he hnx hny hnxs hnys
         by_cases g5 : xz = x + y
         ·subst g5
          have G := hH (KN.out rfl rfl HM.out rfl HE.out rfl)
          have j2 := J2.out
          have j3 := J3.out
          have j4 := J4.out
          go_enter Tryz.func143, Tryz.ntmps143
          go_wp2_with fail
          (with_reducible refine (HCU.out _ (HCI.out.below bw)).mono ?_); rintro e w1 ⟨rfl, b1⟩; have s1 : w.heap.size + 2 ≤ w1.heap.size := sz b1; have B1 := hJ w b1; obtain ⟨c1_0, c1_1⟩ := k2 (w.heap.size) (.int .i64 D) (.slice (some ⟨b, o, none⟩) n cc) b1 aJ; obtain ⟨c1_2, c1_3, c1_4, c1_5, c1_6⟩ := k5 (w.heap.size + 1) (.slice ca cl ccc) (.int .i64 xat) (.int .i64 ((i : Int) + 1)) (.int .i64 m) (.int .i64 (x + y)) b1 aJ; obtain ⟨l1_0, n1_0, m1_0⟩ := lnm (show w.heap.size < w1.heap.size by omega); obtain ⟨l1_1, n1_1, m1_1⟩ := lnm (show w.heap.size + 1 < w1.heap.size by omega); clear b1
          go_wp2_with fail
          (with_reducible refine (HI1.out _ (HT.out.below (bx B1.out))).mono ?_); rintro e w2 ⟨rfl, b2⟩; have s2 : w1.heap.size ≤ w2.heap.size := sz b2; have B2 := bJ B1.out b2; obtain ⟨c2_0, c2_1⟩ := k2 (w.heap.size) (.int .i64 D) (.slice (some ⟨b, o, none⟩) n cc) b2 aJ; obtain ⟨c2_2, c2_3, c2_4, c2_5, c2_6⟩ := k5 (w.heap.size + 1) (.slice ca cl ccc) (.int .i64 xat) (.int .i64 ((i : Int) + 1)) (.int .i64 m) (.int .i64 (x + y)) b2 aJ; obtain ⟨l2_0, n2_0, m2_0⟩ := lnm (show w.heap.size < w2.heap.size by omega); obtain ⟨l2_1, n2_1, m2_1⟩ := lnm (show w.heap.size + 1 < w2.heap.size by omega); clear b2
          go_wp2_with fail
          (with_reducible refine (HI2.out _ (HT.out.below (bx B2.out))).mono ?_); rintro e w3 ⟨rfl, b3⟩; have s3 : w2.heap.size ≤ w3.heap.size := sz b3; have B3 := bJ B2.out b3; obtain ⟨c3_0, c3_1⟩ := k2 (w.heap.size) (.int .i64 D) (.slice (some ⟨b, o, none⟩) n cc) b3 aJ; obtain ⟨c3_2, c3_3, c3_4, c3_5, c3_6⟩ := k5 (w.heap.size + 1) (.slice ca cl ccc) (.int .i64 xat) (.int .i64 ((i : Int) + 1)) (.int .i64 m) (.int .i64 (x + y)) b3 aJ; obtain ⟨l3_0, n3_0, m3_0⟩ := lnm (show w.heap.size < w3.heap.size by omega); obtain ⟨l3_1, n3_1, m3_1⟩ := lnm (show w.heap.size + 1 < w3.heap.size by omega); clear b3
          have k5 := (B3.out.cell (p := ⟨b, o + (i + 1) * 5 + 4, none⟩) hb2).trans k4
          have l5 := (B3.out.cell (p := ⟨b, o + m * 5 + 4, none⟩) hb2).trans l4
          clear k4 l4
          go_wp2_with fail
          have j5 := J5.out
          go_quiet (fail)
          go_wp2_with fail
          go_ret
          exact ⟨by rw [G.out]; rfl, bx B3.out⟩
         ·have G := hH (KV.out fun e' s q => by obtain ⟨m', x', y', _, _, h1, h2, h3, h4⟩ := K2.out e' s q; have q1 := HM.out.same h1; obtain rfl : m' = m := (by omega); have q2 := HE.out.same h3; omega)
          have J6 := hH (show (xz != x + y) = true by simp [g5])
          clear g5
          have j2 := J2.out
          have j3 := J3.out
          have j4 := J4.out
          go_enter Tryz.func143, Tryz.ntmps143
          go_wp2_with fail
          (with_reducible refine (HCU.out _ (HCI.out.below bw)).mono ?_); rintro e w1 ⟨rfl, b1⟩; have s1 : w.heap.size + 2 ≤ w1.heap.size := sz b1; have B1 := hJ w b1; obtain ⟨c1_0, c1_1⟩ := k2 (w.heap.size) (.int .i64 D) (.slice (some ⟨b, o, none⟩) n cc) b1 aJ; obtain ⟨c1_2, c1_3, c1_4, c1_5, c1_6⟩ := k5 (w.heap.size + 1) (.slice ca cl ccc) (.int .i64 xat) (.int .i64 ((i : Int) + 1)) (.int .i64 m) (.int .i64 xz) b1 aJ; obtain ⟨l1_0, n1_0, m1_0⟩ := lnm (show w.heap.size < w1.heap.size by omega); obtain ⟨l1_1, n1_1, m1_1⟩ := lnm (show w.heap.size + 1 < w1.heap.size by omega); clear b1
          go_wp2_with fail
          (with_reducible refine (HI1.out _ (HT.out.below (bx B1.out))).mono ?_); rintro e w2 ⟨rfl, b2⟩; have s2 : w1.heap.size ≤ w2.heap.size := sz b2; have B2 := bJ B1.out b2; obtain ⟨c2_0, c2_1⟩ := k2 (w.heap.size) (.int .i64 D) (.slice (some ⟨b, o, none⟩) n cc) b2 aJ; obtain ⟨c2_2, c2_3, c2_4, c2_5, c2_6⟩ := k5 (w.heap.size + 1) (.slice ca cl ccc) (.int .i64 xat) (.int .i64 ((i : Int) + 1)) (.int .i64 m) (.int .i64 xz) b2 aJ; obtain ⟨l2_0, n2_0, m2_0⟩ := lnm (show w.heap.size < w2.heap.size by omega); obtain ⟨l2_1, n2_1, m2_1⟩ := lnm (show w.heap.size + 1 < w2.heap.size by omega); clear b2
          go_wp2_with fail
          (with_reducible refine (HI2.out _ (HT.out.below (bx B2.out))).mono ?_); rintro e w3 ⟨rfl, b3⟩; have s3 : w2.heap.size ≤ w3.heap.size := sz b3; have B3 := bJ B2.out b3; obtain ⟨c3_0, c3_1⟩ := k2 (w.heap.size) (.int .i64 D) (.slice (some ⟨b, o, none⟩) n cc) b3 aJ; obtain ⟨c3_2, c3_3, c3_4, c3_5, c3_6⟩ := k5 (w.heap.size + 1) (.slice ca cl ccc) (.int .i64 xat) (.int .i64 ((i : Int) + 1)) (.int .i64 m) (.int .i64 xz) b3 aJ; obtain ⟨l3_0, n3_0, m3_0⟩ := lnm (show w.heap.size < w3.heap.size by omega); obtain ⟨l3_1, n3_1, m3_1⟩ := lnm (show w.heap.size + 1 < w3.heap.size by omega); clear b3
          have k5 := (B3.out.cell (p := ⟨b, o + (i + 1) * 5 + 4, none⟩) hb2).trans k4
          have l5 := (B3.out.cell (p := ⟨b, o + m * 5 + 4, none⟩) hb2).trans l4
          clear k4 l4
          go_wp2_with fail
          have j5 := J5.out
          have j6 := J6.out
          go_quiet (fail)
          go_wp2_with fail
          go_ret
          exact ⟨by rw [G.out]; rfl, bx B3.out⟩
        ·have G := hH (KV.out fun e s q => by obtain ⟨m', x', y', _, _, h1, h2, h3, _⟩ := K2.out e s q; have q1 := HM.out.same h1; obtain rfl : m' = m := (by omega); exact hq2 ⟨e, y', h3⟩)
         rw [endV_no (fun e y h => hq2 ⟨e, y, h⟩)] at HI2
         have J5 := hH (show decide ((-1 : Int) < 0) = true by decide)
         clear hq2
         have j2 := J2.out
         have j3 := J3.out
         have j4 := J4.out
         go_enter Tryz.func143, Tryz.ntmps143
         go_wp2_with fail
         (with_reducible refine (HCU.out _ (HCI.out.below bw)).mono ?_); rintro e w1 ⟨rfl, b1⟩; have s1 : w.heap.size + 2 ≤ w1.heap.size := sz b1; have B1 := hJ w b1; obtain ⟨c1_0, c1_1⟩ := k2 (w.heap.size) (.int .i64 D) (.slice (some ⟨b, o, none⟩) n cc) b1 aJ; obtain ⟨c1_2, c1_3, c1_4, c1_5, c1_6⟩ := k5 (w.heap.size + 1) (.slice ca cl ccc) (.int .i64 xat) (.int .i64 ((i : Int) + 1)) (.int .i64 m) (.int .i64 xz) b1 aJ; obtain ⟨l1_0, n1_0, m1_0⟩ := lnm (show w.heap.size < w1.heap.size by omega); obtain ⟨l1_1, n1_1, m1_1⟩ := lnm (show w.heap.size + 1 < w1.heap.size by omega); clear b1
         go_wp2_with fail
         (with_reducible refine (HI1.out _ (HT.out.below (bx B1.out))).mono ?_); rintro e w2 ⟨rfl, b2⟩; have s2 : w1.heap.size ≤ w2.heap.size := sz b2; have B2 := bJ B1.out b2; obtain ⟨c2_0, c2_1⟩ := k2 (w.heap.size) (.int .i64 D) (.slice (some ⟨b, o, none⟩) n cc) b2 aJ; obtain ⟨c2_2, c2_3, c2_4, c2_5, c2_6⟩ := k5 (w.heap.size + 1) (.slice ca cl ccc) (.int .i64 xat) (.int .i64 ((i : Int) + 1)) (.int .i64 m) (.int .i64 xz) b2 aJ; obtain ⟨l2_0, n2_0, m2_0⟩ := lnm (show w.heap.size < w2.heap.size by omega); obtain ⟨l2_1, n2_1, m2_1⟩ := lnm (show w.heap.size + 1 < w2.heap.size by omega); clear b2
         go_wp2_with fail
         (with_reducible refine (HI2.out _ (HT.out.below (bx B2.out))).mono ?_); rintro e w3 ⟨rfl, b3⟩; have s3 : w2.heap.size ≤ w3.heap.size := sz b3; have B3 := bJ B2.out b3; obtain ⟨c3_0, c3_1⟩ := k2 (w.heap.size) (.int .i64 D) (.slice (some ⟨b, o, none⟩) n cc) b3 aJ; obtain ⟨c3_2, c3_3, c3_4, c3_5, c3_6⟩ := k5 (w.heap.size + 1) (.slice ca cl ccc) (.int .i64 xat) (.int .i64 ((i : Int) + 1)) (.int .i64 m) (.int .i64 xz) b3 aJ; obtain ⟨l3_0, n3_0, m3_0⟩ := lnm (show w.heap.size < w3.heap.size by omega); obtain ⟨l3_1, n3_1, m3_1⟩ := lnm (show w.heap.size + 1 < w3.heap.size by omega); clear b3
         go_wp2_with fail
         have j5 := J5.out
         go_quiet (fail)
         go_wp2_with fail
         go_ret
         exact ⟨by rw [G.out]; rfl, bx B3.out⟩
       ·have G := hH (KV.out fun e s q => by obtain ⟨m', x', y', _, _, h1, h2, _⟩ := K2.out e s q; have := (HM.out.same h1).1; omega)
        have J4 := hH (show (xr != (m : Int)) = true by simp [g4])
        clear g4
        have j2 := J2.out
        have j3 := J3.out
        go_enter Tryz.func143, Tryz.ntmps143
        go_wp2_with fail
        (with_reducible refine (HCU.out _ (HCI.out.below bw)).mono ?_); rintro e w1 ⟨rfl, b1⟩; have s1 : w.heap.size + 2 ≤ w1.heap.size := sz b1; have B1 := hJ w b1; obtain ⟨c1_0, c1_1⟩ := k2 (w.heap.size) (.int .i64 D) (.slice (some ⟨b, o, none⟩) n cc) b1 aJ; obtain ⟨c1_2, c1_3, c1_4, c1_5, c1_6⟩ := k5 (w.heap.size + 1) (.slice ca cl ccc) (.int .i64 xat) (.int .i64 ((i : Int) + 1)) (.int .i64 xr) (.int .i64 xz) b1 aJ; obtain ⟨l1_0, n1_0, m1_0⟩ := lnm (show w.heap.size < w1.heap.size by omega); obtain ⟨l1_1, n1_1, m1_1⟩ := lnm (show w.heap.size + 1 < w1.heap.size by omega); clear b1
        go_wp2_with fail
        (with_reducible refine (HI1.out _ (HT.out.below (bx B1.out))).mono ?_); rintro e w2 ⟨rfl, b2⟩; have s2 : w1.heap.size ≤ w2.heap.size := sz b2; have B2 := bJ B1.out b2; obtain ⟨c2_0, c2_1⟩ := k2 (w.heap.size) (.int .i64 D) (.slice (some ⟨b, o, none⟩) n cc) b2 aJ; obtain ⟨c2_2, c2_3, c2_4, c2_5, c2_6⟩ := k5 (w.heap.size + 1) (.slice ca cl ccc) (.int .i64 xat) (.int .i64 ((i : Int) + 1)) (.int .i64 xr) (.int .i64 xz) b2 aJ; obtain ⟨l2_0, n2_0, m2_0⟩ := lnm (show w.heap.size < w2.heap.size by omega); obtain ⟨l2_1, n2_1, m2_1⟩ := lnm (show w.heap.size + 1 < w2.heap.size by omega); clear b2
        have j4 := J4.out
        go_wp2_with fail
        go_ret
        exact ⟨by rw [G.out]; rfl, bx B2.out⟩
      ·have G := hH (KV.out fun e s q => by obtain ⟨m, x, y, _, _, h, _⟩ := K2.out e s q; exact hq1 ⟨m, x, h⟩)
       rw [endV_no (fun m x h => hq1 ⟨m, x, h⟩)] at HI1
       clear hq1
       have j2 := J2.out
       have j3 := J3.out
       go_enter Tryz.func143, Tryz.ntmps143
       go_wp2_with fail
       (with_reducible refine (HCU.out _ (HCI.out.below bw)).mono ?_); rintro e w1 ⟨rfl, b1⟩; have s1 : w.heap.size + 2 ≤ w1.heap.size := sz b1; have B1 := hJ w b1; obtain ⟨c1_0, c1_1⟩ := k2 (w.heap.size) (.int .i64 D) (.slice (some ⟨b, o, none⟩) n cc) b1 aJ; obtain ⟨c1_2, c1_3, c1_4, c1_5, c1_6⟩ := k5 (w.heap.size + 1) (.slice ca cl ccc) (.int .i64 xat) (.int .i64 ((i : Int) + 1)) (.int .i64 xr) (.int .i64 xz) b1 aJ; obtain ⟨l1_0, n1_0, m1_0⟩ := lnm (show w.heap.size < w1.heap.size by omega); obtain ⟨l1_1, n1_1, m1_1⟩ := lnm (show w.heap.size + 1 < w1.heap.size by omega); clear b1
       go_wp2_with fail
       (with_reducible refine (HI1.out _ (HT.out.below (bx B1.out))).mono ?_); rintro e w2 ⟨rfl, b2⟩; have s2 : w1.heap.size ≤ w2.heap.size := sz b2; have B2 := bJ B1.out b2; obtain ⟨c2_0, c2_1⟩ := k2 (w.heap.size) (.int .i64 D) (.slice (some ⟨b, o, none⟩) n cc) b2 aJ; obtain ⟨c2_2, c2_3, c2_4, c2_5, c2_6⟩ := k5 (w.heap.size + 1) (.slice ca cl ccc) (.int .i64 xat) (.int .i64 ((i : Int) + 1)) (.int .i64 xr) (.int .i64 xz) b2 aJ; obtain ⟨l2_0, n2_0, m2_0⟩ := lnm (show w.heap.size < w2.heap.size by omega); obtain ⟨l2_1, n2_1, m2_1⟩ := lnm (show w.heap.size + 1 < w2.heap.size by omega); clear b2
       go_wp2_with fail
       go_ret
       exact ⟨by rw [G.out]; rfl, bx B2.out⟩
    ·have G := hH (KV.out fun e s q => by obtain ⟨m, x, y, h, _⟩ := K2.out e s q; exact g2 h)
     have J2 := hH (show (xl != (i : Int) + 1) = true by simp [g2])
     clear g2
     by_cases g3 : xl = 0
     ·subst g3
      have J3 := hH (show (xr == 0) = false by simp; intro h; exact g1 ⟨rfl, h⟩)
      clear g1
      have j2 := J2.out
      have j3 := J3.out
      go_enter Tryz.func143, Tryz.ntmps143
      go_wp2_with fail
      go_ret
      exact ⟨by rw [G.out]; rfl, bw⟩
     ·have J3 := hH (show (xl == 0) = false by simp [g3])
      clear g1 g3
      have j2 := J2.out
      have j3 := J3.out
      go_enter Tryz.func143, Tryz.ntmps143
      go_wp2_with fail
      go_ret
      exact ⟨by rw [G.out]; rfl, bw⟩
  ·have j1 : decide (n ≤ i) = true := by simp; omega
   have G := hH (show V = -1 from by rw [← HV.out]; exact endV_no fun e s q => by obtain ⟨_, _, q⟩ := q.sub; have := q.lt; have := HL.out; omega)
   generalize t.dim = D at *
   go_enter Tryz.func143, Tryz.ntmps143
   go_wp2_with fail
   go_ret
   exact ⟨by rw [G.out]; rfl, bw⟩

set_option maxRecDepth 100000 in
set_option maxHeartbeats 2000000 in
theorem ristree_any (v : Value) (t : TreeP) (w : World) (h : TreeR w v t) :
  Calls Tryz.prog 132 #[v] w fun e w' => e = .returned (.bool (treeB t)) ∧ Below w.heap.size w w' := by
 have HT := hH h
 obtain ⟨nv, rfl, ad, cc, rfl, _, _, q3, h⟩ := h
 obtain ⟨B, hB⟩ : ∃ B, treeB t = B := ⟨_, rfl⟩
 rw [hB]
 have HB := hH hB
 clear hB
 obtain ⟨n, hn⟩ : ∃ n, t.nodes.length = n := ⟨_, rfl⟩
 rw [hn] at q3 HT ⊢
 have HL := hH hn
 clear hn
 by_cases h1 : 1 ≤ t.dim
 ·by_cases h2 : t.dim ≤ 8
  ·rcases Nat.eq_zero_or_pos n with h3 | h3
   ·subst h3
    have G := hH (show B = false by rw [← HB.out, treeB_false]; intro h; have := h.len; have := HL.out; omega)
    clear h
    generalize t.dim = dim at *
    go_enter Tryz.func132, Tryz.ntmps132
    go_wp2_with fail
    go_ret
    exact ⟨by rw [G.out]; rfl, bw⟩
   ·obtain ⟨r, hr⟩ := getElem?_ex (l := t.nodes) (k := 0) (by rw [HL.out]; omega)
    obtain ⟨b, o, rfl, hb, hnode⟩ := h 0 r hr
    obtain ⟨_, _, _, _, _, _, _, c4⟩ := hnode.val
    rw [Nat.zero_mul, Nat.add_zero] at c4
    have HR := hH hr
    obtain ⟨s0, hs0⟩ : ∃ s0, r.size = s0 := ⟨_, rfl⟩
    rw [hs0] at c4
    have HS0 := hH hs0
    have i1 : (0 : Int) < n := by omega
    have i3 : ((n : Int) == 0) = false := by simp; omega
    clear h hs0 hr hnode
    by_cases h5 : 1 ≤ s0
    ·by_cases h6 : s0 ≤ 64
     ·have HLOG := hH (fun W => rlog2_any s0 W (by unfold Ok64; omega))
      have HIT := hH (isTree_end h1 h2 HR.out (by rw [HS0.out]; exact h6))
      have hlg := logI_le h6
      have HE := hH (fun W (hW : TreeR W (.agg #[.int .i64 t.dim, .slice (some ⟨b, o, none⟩) n cc]) t) => rend_any t (logI s0 + 1) 0 _ W hW (by omega) (by omega))
      have e1 : logI s0 = Lib.bitLen (s0.toNat - 1) := rfl
      rw [HS0.out] at HIT
      rw [e1] at HE HIT hlg
      generalize Lib.bitLen (s0.toNat - 1) = lg at *
      obtain ⟨V, hV⟩ : ∃ V, endV t (lg + 1) 0 = V := ⟨_, rfl⟩
      rw [hV] at HE HIT
      rw [show (((lg + 1 : Nat) : Int) - 1) = lg by omega, Int.natCast_zero] at HE
      have hlb : (lg : Int) ≤ 6 := by omega
      have HBV := hH (show B = (V == (n : Int)) by rw [← HB.out, Bool.eq_iff_iff, treeB_true, HIT.out, HL.out]; simp)
      clear hV e1 hlg
      generalize t.dim = dim at *
      go_enter Tryz.func132, Tryz.ntmps132
      go_wp2_with fail
      have P0 := hH True.intro
      go_region_held3 (fun w' => w'.cell? ⟨w.heap.size, 0, none⟩ = some (.int .i64 dim) ∧ w'.cell? ⟨w.heap.size, 1, none⟩ = some (.slice (some ⟨b, o, none⟩) n cc)) (first | (go_simp; done) | (go_keep; done) | (refine ⟨?_, ?_⟩ <;> first | (go_simp; done) | (go_keep; done))) (first | (first | (go_at_call 144; (with_reducible refine (HLOG.out _).mono ?_); rintro e w1 ⟨rfl, rfl⟩) | go_at_call 143; (with_reducible refine (HE.out _ (HT.out.below bw)).mono ?_); rintro e w2 ⟨rfl, b2⟩; have s2 : w.heap.size + 1 ≤ w2.heap.size := sz b2; have B2 := hJ w b2; obtain ⟨c2_0, c2_1⟩ := k2 (w.heap.size) (.int .i64 dim) (.slice (some ⟨b, o, none⟩) n cc) b2 aJ; obtain ⟨l2_0, n2_0, m2_0⟩ := lnm (show w.heap.size < w2.heap.size by omega); clear b2))
      go_wp2_with fail
      go_ret
      exact ⟨ret_bool HBV.out.symm, bx B2.out⟩
     ·have G := hH (show B = false by rw [← HB.out, treeB_false]; intro h; have := h.root HR.out; have := HS0.out; omega)
      generalize t.dim = dim at *
      have j6 : decide (s0 ≤ 64) = false := by simp; omega
      go_enter Tryz.func132, Tryz.ntmps132
      go_wp2_with fail
      go_quiet (fail)
      go_wp2_with fail
      go_ret
      exact ⟨by rw [G.out]; rfl, bw⟩
    ·have G := hH (show B = false by rw [← HB.out, treeB_false]; intro h; have := h.root HR.out; have := HS0.out; omega)
     generalize t.dim = dim at *
     have j6 : decide (1 ≤ s0) = false := by simp; omega
     go_enter Tryz.func132, Tryz.ntmps132
     go_wp2_with fail
     go_quiet (fail)
     go_wp2_with fail
     go_ret
     exact ⟨by rw [G.out]; rfl, bw⟩
  ·have G := hH (show B = false by rw [← HB.out, treeB_false]; intro h; exact h2 h.2.1)
   clear h
   generalize t.dim = dim at *
   go_enter Tryz.func132, Tryz.ntmps132
   go_wp2_with fail
   go_ret
   exact ⟨by rw [G.out]; rfl, bw⟩
 ·have G := hH (show B = false by rw [← HB.out, treeB_false]; intro h; exact h1 h.1)
  clear h
  generalize t.dim = dim at *
  go_enter Tryz.func132, Tryz.ntmps132
  go_wp2_with fail
  go_ret
  exact ⟨by rw [G.out]; rfl, bw⟩
end Go.Proofs.YtgobbecpnjelmaaGreat
