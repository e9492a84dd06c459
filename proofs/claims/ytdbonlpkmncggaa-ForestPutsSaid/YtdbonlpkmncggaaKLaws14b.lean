/-
  Laws14b: The walk of ForestPuts.
-/
import Derived.Test.YtdbonlpkmncggaaKLaws14a
namespace Go.Proofs.Ytdbonlpkmncggaa
open Go.RowKit

theorem sameF_self (l : List (TreeP × Int)) : sameF l l = true := sameF_eq.2 rfl

theorem fputE_ok {f : List (TreeP × Int)} {i : Int} {g : TreeP × Int} (h : fputE f i g = 0) : ∃ k : Nat, i = (k : Int) ∧ k ≤ f.length ∧ fputL f i g = putF f k g ∧ isF (putF f k g) = true := by
  have h0 := h
  unfold fputE at h
  split at h
  · omega
  · split at h
    · omega
    · split at h
      · omega
      · split at h
        · omega
        · rename_i h1 h2 h3 h4
          refine ⟨i.toNat, by omega, by omega, fputL_yes h0, by simpa using h4⟩

theorem putF_at {f : List (TreeP × Int)} {k i : Nat} {g : TreeP × Int} (hi : i < (putF f k g).length) (hne : i ≠ k) : ∃ p, (putF f k g)[i]? = some p ∧ f[i]? = some p := by
  unfold putF at hi ⊢
  split at hi
  · rename_i e
    rw [if_pos e, List.getElem?_append_left (by rw [List.length_append] at hi; simp at hi; omega)]
    obtain ⟨p, hp⟩ := getElem?_ex (l := f) (k := i) (by rw [List.length_append] at hi; simp at hi; omega)
    exact ⟨p, hp, hp⟩
  · rename_i e
    rw [if_neg e, List.getElem?_set, if_neg (fun e => hne e.symm)]
    rw [List.length_set] at hi
    obtain ⟨p, hp⟩ := getElem?_ex (l := f) (k := i) hi
    exact ⟨p, hp, hp⟩

set_option maxRecDepth 100000 in
set_option maxHeartbeats 8000000 in
theorem forestPuts_walk {w : World} (v : Value) (f : List (TreeP × Int)) (hv : ArgGrowns w v f) (a : Int) (ha : (Lit.int .i64 a).wf = true) (v3 : Value) (g : TreeP × Int) (hg : ArgGrown w v3 g) :
    Calls Try.prog 4 #[v, .int .i64 a, v3] w fun e w' => e = .returned (.bool true) ∧ Below w.heap.size w w' := by
  have HM := Lib.hid (fun W (hb : Below w.heap.size w W) => rmuch14_any v f W (hv.below hb))
  have HTT := Lib.hid (fun (h : muchG f = false) => And.intro (hv.growns h) (muchG_small h))
  obtain ⟨gv, rfl, hgw, hgn⟩ := hg
  have HM2 := Lib.hid (fun W (hb : Below w.heap.size w W) => rmuch_any (.agg #[.int .i64 g.1.dim, gv]) g.1 W ⟨gv, rfl, hgn.below hb⟩)
  have HTT2 := Lib.hid (fun (h : muchN g.1.nodes = false) => And.intro (show GrownV w (.agg #[.int .i64 g.1.dim, gv, .int .i64 g.2]) g from ⟨gv, rfl, wf_ok hgw, hgn.nodes h⟩) (show smallT g.1 from muchN_small h))
  obtain ⟨ad, cc, rfl, hd1, hd2, _⟩ := hv
  obtain ⟨ga, gc, rfl, hg1, hg2, _⟩ := hgn
  obtain ⟨n, hn⟩ : ∃ n, f.length = n := ⟨_, rfl⟩
  obtain ⟨gm, hgm⟩ : ∃ m, g.1.nodes.length = m := ⟨_, rfl⟩
  obtain ⟨gd, hgd⟩ : ∃ m, g.1.dim = m := ⟨_, rfl⟩
  obtain ⟨gz, hgz⟩ : ∃ m, g.2 = m := ⟨_, rfl⟩
  have HN := Lib.hid hn
  rw [hn] at HM HTT hd1 ⊢
  rw [hgm, hgd] at HM2
  rw [hgm, hgd, hgz] at HTT2
  rw [hgm] at hg1
  rw [hgm, hgd, hgz]
  obtain ⟨M, hM⟩ : ∃ M, muchG f = M := ⟨_, rfl⟩
  obtain ⟨M2, hM2⟩ : ∃ M, muchN g.1.nodes = M := ⟨_, rfl⟩
  rw [hM] at HM HTT
  rw [hM2] at HM2 HTT2
  clear hM hM2 hn hgm hgd hgz
  cases M with
  | true =>
    clear HTT HTT2 HM2
    go_enter Try.func4, Try.ntmps4
    go_wp2_with fail
    (with_reducible refine (HM.out _ (by (repeat (first | with_reducible exact Below.refl _ _ | with_reducible refine Bs ?_ | with_reducible refine Ba ?_ | with_reducible refine Bd ?_ | with_reducible refine Bn ?_)))).mono ?_)
    rintro e w1 ⟨rfl, b1⟩
    have B1 := Lib.hid (show Below w.heap.size w w1 from below_tr (by (repeat (first | with_reducible exact Below.refl _ _ | with_reducible refine Bs ?_ | with_reducible refine Ba ?_ | with_reducible refine Bd ?_ | with_reducible refine Bn ?_))) (b1.mono (by simp)))
    clear b1
    go_wp2_with fail
    (with_reducible refine (lives14_any _).mono ?_)
    rintro e w2 ⟨rfl, b2⟩
    have B2 := Lib.hid (show Below w.heap.size w w2 from B1.out.trans (b2.mono B1.out.size))
    clear b2
    go_wp2_with fail
    go_ret
    exact ⟨rfl, B2.out⟩
  | false =>
    cases M2 with
    | true =>
      clear HTT HTT2
      go_enter Try.func4, Try.ntmps4
      go_wp2_with fail
      (with_reducible refine (HM.out _ (by (repeat (first | with_reducible exact Below.refl _ _ | with_reducible refine Bs ?_ | with_reducible refine Ba ?_ | with_reducible refine Bd ?_ | with_reducible refine Bn ?_)))).mono ?_); rintro e w1 ⟨rfl, b1⟩; have s1 : w.heap.size + 1 ≤ w1.heap.size := sz b1; have B1 := Lib.hid (Bc (B := w.heap.size) (a := w) (by (repeat (first | with_reducible exact Below.refl _ _ | with_reducible refine Bs ?_ | with_reducible refine Ba ?_ | with_reducible refine Bd ?_ | with_reducible refine Bn ?_))) b1); obtain ⟨c1_0, c1_1, c1_2⟩ := k3 (w.heap.size) (.int .i64 gd) (.slice ga gm gc) (.int .i64 gz) b1 (by and_intros <;> go_simp); obtain ⟨l1_0, n1_0, m1_0⟩ := lnm (show w.heap.size < w1.heap.size by omega); clear b1
      go_wp2_with fail
      (with_reducible refine (HM2.out _ (by (repeat (first | with_reducible exact Below.refl _ _ | with_reducible refine Bs ?_ | with_reducible refine Ba ?_ | with_reducible refine Bd ?_ | with_reducible refine Bn ?_ | with_reducible refine Bt B1.out ?_)))).mono ?_)
      rintro e w2 ⟨rfl, b2⟩
      have B2 := Lib.hid (show Below w.heap.size w w2 from B1.out.trans (b2.mono B1.out.size))
      clear b2
      go_wp2_with fail
      (with_reducible refine (lives14_any _).mono ?_)
      rintro e w3 ⟨rfl, b3⟩
      have B3 := Lib.hid (show Below w.heap.size w w3 from B2.out.trans (b3.mono B2.out.size))
      clear b3
      go_wp2_with fail
      go_ret
      exact ⟨rfl, B3.out⟩
    | false =>
      have HG := Lib.hid (HTT.out rfl).1
      have HSM := Lib.hid (HTT.out rfl).2
      have HV := Lib.hid (HTT2.out rfl).1
      have HSG := Lib.hid (HTT2.out rfl).2
      obtain ⟨ps, hp1, hp2, ad', cc', e, hp3⟩ := growns_vals HG.out
      injection e with e1 e2 e3
      subst e1 e3
      clear e2
      have HP1 := Lib.hid hp1
      have HP2 := Lib.hid hp2
      have HP3 := Lib.hid (rowG_cells hp3)
      have hql : ps.length = n := by rw [← HN.out, ← hp1, List.length_map]
      have HQL := Lib.hid hql
      have hn1000 : n ≤ 1000 := by have := HSM.out.1; rw [HN.out] at this; exact this
      have h1 := fun W (hb : Below w.heap.size w W) => fput_any' _ _ f a g W (HG.out.below hb) (HV.out.below hb) HSM.out HSG.out
      have h2 := fun W v' (hb : Below w.heap.size w W) (hW : GrownsR W v' f) => rput14_any v' _ f a g W hW (HV.out.below hb)
      have HOK := Lib.hid (show fputE f a g = 0 → _ from fputE_ok)
      have HNO := Lib.hid (show fputE f a g ≠ 0 → fputL f a g = [] from fputL_no)
      obtain ⟨E, hE⟩ : ∃ E, fputE f a g = E := ⟨_, rfl⟩
      obtain ⟨PL, hPL⟩ : ∃ PL, fputL f a g = PL := ⟨_, rfl⟩
      rw [hE, hPL] at h1 h2 HOK HNO
      have HSS := Lib.hid (fun W v' v'' (h' : GrownsR W v' PL) (h'' : GrownsR W v'' PL) => sameF_self PL ▸ rsame14_any v' v'' PL PL W h' h'')
      have HSF := Lib.hid (fun W v' v'' (h' : GrownsR W v' f) (h'' : GrownsR W v'' f) => sameF_self f ▸ rsame14_any v' v'' f f W h' h'')
      have HIS := Lib.hid (fun W v' (h' : GrownsR W v' PL) => fis_any v' PL W h')
      have H1 := Lib.hid h1
      have H2 := Lib.hid h2
      have j4 : (E != E) = false := by simp
      clear h1 h2 hp1 hp2 hp3 hql HTT HTT2 hE hPL
      go_enter Try.func4, Try.ntmps4
      go_wp2_with fail
      (with_reducible refine (HM.out _ (by (repeat (first | with_reducible exact Below.refl _ _ | with_reducible refine Bs ?_ | with_reducible refine Ba ?_ | with_reducible refine Bd ?_ | with_reducible refine Bn ?_)))).mono ?_); rintro e w1 ⟨rfl, b1⟩; have s1 : w.heap.size + 1 ≤ w1.heap.size := sz b1; have B1 := Lib.hid (Bc (B := w.heap.size) (a := w) (by (repeat (first | with_reducible exact Below.refl _ _ | with_reducible refine Bs ?_ | with_reducible refine Ba ?_ | with_reducible refine Bd ?_ | with_reducible refine Bn ?_))) b1); obtain ⟨c1_0, c1_1, c1_2⟩ := k3 (w.heap.size) (.int .i64 gd) (.slice ga gm gc) (.int .i64 gz) b1 (by and_intros <;> go_simp); obtain ⟨l1_0, n1_0, m1_0⟩ := lnm (show w.heap.size < w1.heap.size by omega); clear b1
      go_wp2_with fail
      (with_reducible refine (HM2.out _ (by (repeat (first | with_reducible exact Below.refl _ _ | with_reducible refine Bs ?_ | with_reducible refine Ba ?_ | with_reducible refine Bd ?_ | with_reducible refine Bn ?_ | with_reducible refine Bt B1.out ?_)))).mono ?_); rintro e w2 ⟨rfl, b2⟩; have s2 : w1.heap.size ≤ w2.heap.size := sz b2; have B2 := Lib.hid (Bc (B := w.heap.size) (a := w) (by (repeat (first | with_reducible exact Below.refl _ _ | with_reducible refine Bs ?_ | with_reducible refine Ba ?_ | with_reducible refine Bd ?_ | with_reducible refine Bn ?_ | with_reducible refine Bt B1.out ?_))) b2); obtain ⟨c2_0, c2_1, c2_2⟩ := k3 (w.heap.size) (.int .i64 gd) (.slice ga gm gc) (.int .i64 gz) b2 (by and_intros <;> go_simp); obtain ⟨l2_0, n2_0, m2_0⟩ := lnm (show w.heap.size < w2.heap.size by omega); clear b2
      go_wp2_with (at_builtin; go_must (refine appS rfl _ _ 22 rfl Try.underlying22 eiGrown w2.heap.size (by rfl) (rowAt_own (n := 0) (size := 3) (xs := []) (Nat.le_refl _) (row_new (by simp)) (Nat.le_refl 0) (by unfold maxLen; omega) rfl rfl) (by rfl) (by rw [rowG_len, HQL.out]) (fun j u hu => by obtain ⟨b, o, g1, g2, g3⟩ := HP3.out j u hu; exact ⟨b, o, g1, ((show Below w.heap.size w _ from by (repeat (first | with_reducible exact Below.refl _ _ | with_reducible refine Bs ?_ | with_reducible refine Ba ?_ | with_reducible refine Bd ?_ | with_reducible refine Bn ?_ | with_reducible refine Bt B2.out ?_))).cell (p := ⟨b, _, none⟩) g2).trans g3⟩) (rowG_one HP2.out) (by omega) (by first | omega | (simp; done) | (simp; omega)) ?_))
      intro v3 w3 o3 g3 nb3
      have hB3 : Below w2.heap.size w2 w3 := (show Below w2.heap.size w2 _ from by (repeat (first | with_reducible exact Below.refl _ _ | with_reducible refine Bs ?_ | with_reducible refine Ba ?_ | with_reducible refine Bd ?_ | with_reducible refine Bn ?_))).grown g3 (by first | omega | (simp; done) | (simp; omega)) (fun k hk => by simp [Value.ownBlock] at hk <;> omega)
      have B3 := Lib.hid (show Below w.heap.size w w3 from B2.out.trans (hB3.mono (by omega)))
      have z3 := hB3.size
      (obtain ⟨c3_0, c3_1, c3_2⟩ := k3 (w.heap.size) (.int .i64 gd) (.slice ga gm gc) (.int .i64 gz) hB3 (by and_intros <;> go_simp)); (obtain ⟨l3_0, n3_0, m3_0⟩ := lnm (show w.heap.size < w3.heap.size by first | omega | (simp at y3; omega)))
      have hOWN := own_growns o3 (by have := HQL.out; omega) (by omega) (fun p hp => ⟨(HP2.out p hp).1, (HP2.out p hp).2.below B3.out⟩)
      rw [HP1.out] at hOWN
      have HOW := Lib.hid hOWN
      obtain ⟨oa, oc, rfl⟩ := hOWN.shape
      rw [HN.out] at HOW ⊢
      clear o3 g3 nb3 hB3 hOWN
      go_wp2_with fail
      (with_reducible refine (H1.out _ (by (repeat (first | with_reducible exact Below.refl _ _ | with_reducible refine Bs ?_ | with_reducible refine Ba ?_ | with_reducible refine Bd ?_ | with_reducible refine Bn ?_ | with_reducible refine Bt B3.out ?_)))).mono ?_); rintro e w4 ⟨v4, rfl, p4, b4⟩; have s4 : w3.heap.size ≤ w4.heap.size := sz b4; have B4 := Lib.hid (Bc (B := w.heap.size) (a := w) (by (repeat (first | with_reducible exact Below.refl _ _ | with_reducible refine Bs ?_ | with_reducible refine Ba ?_ | with_reducible refine Bd ?_ | with_reducible refine Bn ?_ | with_reducible refine Bt B3.out ?_))) b4); obtain ⟨c4_0, c4_1, c4_2⟩ := k3 (w.heap.size) (.int .i64 gd) (.slice ga gm gc) (.int .i64 gz) b4 (by and_intros <;> go_simp); obtain ⟨l4_0, n4_0, m4_0⟩ := lnm (show w.heap.size < w4.heap.size by omega); have HOW := Lib.hid ((HOW.out.below (by (repeat (first | with_reducible exact Below.refl _ _ | with_reducible refine Bs ?_ | with_reducible refine Ba ?_ | with_reducible refine Bd ?_ | with_reducible refine Bn ?_)))).below b4); clear b4
      have P4 := Lib.hid p4
      obtain ⟨a4, c4, rfl⟩ := p4.shape
      clear p4
      go_wp2_with fail
      (with_reducible refine (H2.out _ _ (by (repeat (first | with_reducible exact Below.refl _ _ | with_reducible refine Bs ?_ | with_reducible refine Ba ?_ | with_reducible refine Bd ?_ | with_reducible refine Bn ?_ | with_reducible refine Bt B4.out ?_))) HOW.out).mono ?_); rintro e w5 ⟨v5, rfl, p5, b5⟩; have s5 : w4.heap.size ≤ w5.heap.size := sz b5; have B5 := Lib.hid (Bc (B := w.heap.size) (a := w) (by (repeat (first | with_reducible exact Below.refl _ _ | with_reducible refine Bs ?_ | with_reducible refine Ba ?_ | with_reducible refine Bd ?_ | with_reducible refine Bn ?_ | with_reducible refine Bt B4.out ?_))) b5); obtain ⟨c5_0, c5_1, c5_2⟩ := k3 (w.heap.size) (.int .i64 gd) (.slice ga gm gc) (.int .i64 gz) b5 (by and_intros <;> go_simp); obtain ⟨l5_0, n5_0, m5_0⟩ := lnm (show w.heap.size < w5.heap.size by omega); have HOW := Lib.hid ((HOW.out.below (by (repeat (first | with_reducible exact Below.refl _ _ | with_reducible refine Bs ?_ | with_reducible refine Ba ?_ | with_reducible refine Bd ?_ | with_reducible refine Bn ?_)))).below b5); have P4 := Lib.hid ((P4.out.below (by (repeat (first | with_reducible exact Below.refl _ _ | with_reducible refine Bs ?_ | with_reducible refine Ba ?_ | with_reducible refine Bd ?_ | with_reducible refine Bn ?_)))).below b5); clear b5
      have P5 := Lib.hid p5
      obtain ⟨a5, c5, rfl⟩ := p5.shape
      clear p5
      go_wp2_with fail
      (with_reducible refine (HSS.out _ _ _ P4.out P5.out).mono ?_); rintro e w6 ⟨rfl, b6⟩; have s6 : w5.heap.size ≤ w6.heap.size := sz b6; have B6 := Lib.hid (Bc (B := w.heap.size) (a := w) (by (repeat (first | with_reducible exact Below.refl _ _ | with_reducible refine Bs ?_ | with_reducible refine Ba ?_ | with_reducible refine Bd ?_ | with_reducible refine Bn ?_ | with_reducible refine Bt B5.out ?_))) b6); have HOW := Lib.hid ((HOW.out.below (by (repeat (first | with_reducible exact Below.refl _ _ | with_reducible refine Bs ?_ | with_reducible refine Ba ?_ | with_reducible refine Bd ?_ | with_reducible refine Bn ?_)))).below b6); have P4 := Lib.hid ((P4.out.below (by (repeat (first | with_reducible exact Below.refl _ _ | with_reducible refine Bs ?_ | with_reducible refine Ba ?_ | with_reducible refine Bd ?_ | with_reducible refine Bn ?_)))).below b6); clear b6
      go_wp2_with fail
      (with_reducible refine (HSF.out _ _ _ (HG.out.below B6.out) HOW.out).mono ?_); rintro e w7 ⟨rfl, b7⟩; have s7 : w6.heap.size ≤ w7.heap.size := sz b7; have B7 := Lib.hid (Bc (B := w.heap.size) (a := w) (by (repeat (first | with_reducible exact Below.refl _ _ | with_reducible refine Bs ?_ | with_reducible refine Ba ?_ | with_reducible refine Bd ?_ | with_reducible refine Bn ?_ | with_reducible refine Bt B6.out ?_))) b7); have HOW := Lib.hid ((HOW.out.below (by (repeat (first | with_reducible exact Below.refl _ _ | with_reducible refine Bs ?_ | with_reducible refine Ba ?_ | with_reducible refine Bd ?_ | with_reducible refine Bn ?_)))).below b7); have P4 := Lib.hid ((P4.out.below (by (repeat (first | with_reducible exact Below.refl _ _ | with_reducible refine Bs ?_ | with_reducible refine Ba ?_ | with_reducible refine Bd ?_ | with_reducible refine Bn ?_)))).below b7); clear b7
      go_wp2_with fail
      go_loopw [12] (fun idx wr => ∃ k : Nat, idx = .int .i64 k ∧ k ≤ PL.length ∧ Below w7.heap.size w7 wr) (fun idx _ => PL.length - (intOf idx).toNat)
      case atStart => exact ⟨0, rfl, by omega, Below.refl _ _⟩
      case round =>
        obtain ⟨k, rfl, hk, hbr⟩ := hrel
        have BR := Lib.hid hbr
        have hz := hbr.size
        have BRW := Lib.hid (show Below w.heap.size w wr from B7.out.trans (hbr.mono B7.out.size))
        have HOW := Lib.hid (HOW.out.below hbr)
        have P4 := Lib.hid (P4.out.below hbr)
        clear hbr
        by_cases hlt : k < PL.length
        · have hE0 : E = 0 := by
            by_cases h : E = 0
            · exact h
            · rw [HNO.out h] at hlt
              simp at hlt
          obtain ⟨i0, e0, hi0, hpl, hif⟩ := HOK.out hE0
          subst e0
          have hkb : (k : Int) ≤ 2000 := by
            have : PL.length ≤ n + 1 := by
              rw [hpl]
              unfold putF
              split
              · rw [List.length_append, HN.out]; exact Nat.le_refl _
              · rw [List.length_set, HN.out]; omega
            omega
          by_cases hki : k = i0
          · have jk : ((k : Int) != (i0 : Int)) = false := by simp [hki]
            clear HOK HNO hif hpl hE0
            generalize PL.length = pn at *
            have i1 : (0 : Int) ≤ (k : Int) := by omega
            have i2 : (k : Int) < (pn : Int) := by omega
            go_upto_region 11 with fail
            refine wp_region_held_drew (S := fun w' => True) (by kernel_rfl) ?_ (fun hHeld => ?_); (focus (first | with_reducible exact True.intro | ((try dsimp only); and_intros <;> first | (go_simp; done) | (go_keep; done)))); (refine lexTk 0 (v := ?_) rfl hHeld ?_ (by kernel_rfl) (fun _ _ _ h => h) ?_ ?_; rotate_left 2; (focus rfl); (focus (intro w hSw; (try dsimp only at hSw); first | (go_simp; done) | (go_simp; with_reducible rfl)))); (try simp only [Act.put, List.setIfInBounds_toArray, List.set_cons_zero, List.set_cons_succ]); (refine lexTk 1 (v := ?_) rfl hHeld ?_ (by kernel_rfl) (fun _ _ _ h => h) ?_ ?_; rotate_left 2; (focus rfl); (focus (intro w hSw; (try dsimp only at hSw); first | (go_simp; done) | (go_simp; with_reducible rfl)))); (try simp only [Act.put, List.setIfInBounds_toArray, List.set_cons_zero, List.set_cons_succ]); (refine lexTk 2 (v := ?_) rfl hHeld ?_ (by kernel_rfl) (fun _ _ _ h => h) ?_ ?_; rotate_left 2; (focus rfl); (focus (intro w hSw; (try dsimp only at hSw); first | (go_simp; done) | (go_simp; with_reducible rfl)))); (try simp only [Act.put, List.setIfInBounds_toArray, List.set_cons_zero, List.set_cons_succ]); (refine lexTk 3 (v := ?_) rfl hHeld ?_ (by kernel_rfl) (fun _ _ _ h => h) ?_ ?_; rotate_left 2; (focus rfl); (focus (intro w hSw; (try dsimp only at hSw); first | (go_simp; done) | (go_simp; with_reducible rfl)))); (try simp only [Act.put, List.setIfInBounds_toArray, List.set_cons_zero, List.set_cons_succ]); (first | (refine lexTk 4 (v := ?_) rfl hHeld ?_ (by kernel_rfl) (fun _ _ _ h => h) ?_ ?_; rotate_left 2; (focus rfl); (focus (intro w hSw; (try dsimp only at hSw); first | (go_simp; done) | (go_simp; with_reducible rfl)))) | refine lexSk 4 rfl hHeld ?_ (by kernel_rfl) (fun _ _ _ h => h) (by rfl)); (try simp only [Act.put, List.setIfInBounds_toArray, List.set_cons_zero, List.set_cons_succ]); (first | (refine lexTk 5 (v := ?_) rfl hHeld ?_ (by kernel_rfl) (fun _ _ _ h => h) ?_ ?_; rotate_left 2; (focus rfl); (focus (intro w hSw; (try dsimp only at hSw); first | (go_simp; done) | (go_simp; with_reducible rfl)))) | refine lexSk 5 rfl hHeld ?_ (by kernel_rfl) (fun _ _ _ h => h) (by rfl)); (try simp only [Act.put, List.setIfInBounds_toArray, List.set_cons_zero, List.set_cons_succ]); (first | (refine lexTk 6 (v := ?_) rfl hHeld ?_ (by kernel_rfl) (fun _ _ _ h => h) ?_ ?_; rotate_left 2; (focus rfl); (focus (intro w hSw; (try dsimp only at hSw); first | (go_simp; done) | (go_simp; with_reducible rfl)))) | refine lexSk 6 rfl hHeld ?_ (by kernel_rfl) (fun _ _ _ h => h) (by rfl)); (try simp only [Act.put, List.setIfInBounds_toArray, List.set_cons_zero, List.set_cons_succ]); (first | (refine lexTk 7 (v := ?_) rfl hHeld ?_ (by kernel_rfl) (fun _ _ _ h => h) ?_ ?_; rotate_left 2; (focus rfl); (focus (intro w hSw; (try dsimp only at hSw); first | (go_simp; done) | (go_simp; with_reducible rfl)))) | refine lexSk 7 rfl hHeld ?_ (by kernel_rfl) (fun _ _ _ h => h) (by rfl)); (try simp only [Act.put, List.setIfInBounds_toArray, List.set_cons_zero, List.set_cons_succ]); (first | (refine lexTk 8 (v := ?_) rfl hHeld ?_ (by kernel_rfl) (fun _ _ _ h => h) ?_ ?_; rotate_left 2; (focus rfl); (focus (intro w hSw; (try dsimp only at hSw); first | (go_simp; done) | (go_simp; with_reducible rfl)))) | refine lexSk 8 rfl hHeld ?_ (by kernel_rfl) (fun _ _ _ h => h) (by rfl)); (try simp only [Act.put, List.setIfInBounds_toArray, List.set_cons_zero, List.set_cons_succ]); (first | (refine lexTk 9 (v := ?_) rfl hHeld ?_ (by kernel_rfl) (fun _ _ _ h => h) ?_ ?_; rotate_left 2; (focus rfl); (focus (intro w hSw; (try dsimp only at hSw); first | (go_simp; done) | (go_simp; with_reducible rfl)))) | refine lexSk 9 rfl hHeld ?_ (by kernel_rfl) (fun _ _ _ h => h) (by rfl)); (try simp only [Act.put, List.setIfInBounds_toArray, List.set_cons_zero, List.set_cons_succ]); (first | (refine lexTk 10 (v := ?_) rfl hHeld ?_ (by kernel_rfl) (fun _ _ _ h => h) ?_ ?_; rotate_left 2; (focus rfl); (focus (intro w hSw; (try dsimp only at hSw); first | (go_simp; done) | (go_simp; with_reducible rfl)))) | refine lexSk 10 rfl hHeld ?_ (by kernel_rfl) (fun _ _ _ h => h) (by rfl)); (try simp only [Act.put, List.setIfInBounds_toArray, List.set_cons_zero, List.set_cons_succ]); (first | (refine lexTk 11 (v := ?_) rfl hHeld ?_ (by kernel_rfl) (fun _ _ _ h => h) ?_ ?_; rotate_left 2; (focus rfl); (focus (intro w hSw; (try dsimp only at hSw); first | (go_simp; done) | (go_simp; with_reducible rfl)))) | refine lexSk 11 rfl hHeld ?_ (by kernel_rfl) (fun _ _ _ h => h) (by rfl)); (try simp only [Act.put, List.setIfInBounds_toArray, List.set_cons_zero, List.set_cons_succ]); (first | (refine lexTk 12 (v := ?_) rfl hHeld ?_ (by kernel_rfl) (fun _ _ _ h => h) ?_ ?_; rotate_left 2; (focus rfl); (focus (intro w hSw; (try dsimp only at hSw); first | (go_simp; done) | (go_simp; with_reducible rfl)))) | refine lexSk 12 rfl hHeld ?_ (by kernel_rfl) (fun _ _ _ h => h) (by rfl)); (try simp only [Act.put, List.setIfInBounds_toArray, List.set_cons_zero, List.set_cons_succ]); (first | (refine lexTk 13 (v := ?_) rfl hHeld ?_ (by kernel_rfl) (fun _ _ _ h => h) ?_ ?_; rotate_left 2; (focus rfl); (focus (intro w hSw; (try dsimp only at hSw); first | (go_simp; done) | (go_simp; with_reducible rfl)))) | refine lexSk 13 rfl hHeld ?_ (by kernel_rfl) (fun _ _ _ h => h) (by rfl)); (try simp only [Act.put, List.setIfInBounds_toArray, List.set_cons_zero, List.set_cons_succ]); refine lexSk 14 rfl hHeld ?_ (by kernel_rfl) (fun _ _ _ h => h) (by rfl); (try simp only [Act.put, List.setIfInBounds_toArray, List.set_cons_zero, List.set_cons_succ]); (first | (refine lexTk 15 (v := ?_) rfl hHeld ?_ (by kernel_rfl) (fun _ _ _ h => h) ?_ ?_; rotate_left 2; (focus rfl); (focus (intro w hSw; (try dsimp only at hSw); first | (go_simp; done) | (go_simp; with_reducible rfl)))) | refine lexSk 15 rfl hHeld ?_ (by kernel_rfl) (fun _ _ _ h => h) (by rfl)); (try simp only [Act.put, List.setIfInBounds_toArray, List.set_cons_zero, List.set_cons_succ]); (refine lexTk 16 (v := ?_) rfl hHeld ?_ (by kernel_rfl) (fun _ _ _ h => h) ?_ ?_; rotate_left 2; (focus rfl); (focus (intro w hSw; (try dsimp only at hSw); first | (go_simp; done) | (go_simp; with_reducible rfl)))); (try simp only [Act.put, List.setIfInBounds_toArray, List.set_cons_zero, List.set_cons_succ]); refine wpAnyH_done (by kernel_rfl) ?_ _
            all_goals
              go_wp2_with fail
              go_roundw
              case rel => exact ⟨k + 1, by go_num, by omega, by (repeat (first | with_reducible exact Below.refl _ _ | with_reducible refine Bs ?_ | with_reducible refine Ba ?_ | with_reducible refine Bd ?_ | with_reducible refine Bn ?_ | with_reducible refine Bt BR.out ?_))⟩
              case measure => simp [intOf] <;> omega
          · have jk : ((k : Int) != (i0 : Int)) = true := by simp; omega
            obtain ⟨p, hp, hpf⟩ := putF_at (g := g) (by rw [← hpl]; exact hlt) hki
            rw [← hpl] at hp
            obtain ⟨b, o, na, nc, rfl, hb, c0, c1, c2, _, hnp⟩ := growns_at P4.out hp
            obtain ⟨b2, o2, na2, nc2, rfl, hb2, d0, d1, d2, _, hnq⟩ := growns_at HOW.out hpf
            have HRS := Lib.hid (fun W (hW : Below wr.heap.size wr W) => r10same_any _ _ p.1 p.1 W (show TreeR W (.agg #[.int .i64 p.1.dim, .slice na p.1.nodes.length nc]) p.1 from ⟨_, rfl, hnp.below hW⟩) (show TreeR W (.agg #[.int .i64 p.1.dim, .slice na2 p.1.nodes.length nc2]) p.1 from ⟨_, rfl, hnq.below hW⟩))
            rw [sameT_eq.2 rfl] at HRS
            have hkn : k < n := by have := (List.getElem?_eq_some_iff.1 hpf).1; rw [HN.out] at this; exact this
            have i1 : (0 : Int) ≤ (k : Int) := by omega
            have i3 : (k : Int) < (n : Int) := by omega
            have hby : b ≠ wr.heap.size := by omega
            have hby2 : b2 ≠ wr.heap.size := by omega
            clear HOK HNO hif hpl hp hpf hnp hnq c2 d2 hki hE0
            generalize PL.length = pn at *
            have i2 : (k : Int) < (pn : Int) := by omega
            generalize p.1.nodes.length = tn at *
            generalize p.1.dim = d at *
            go_upto_region 11 with fail
            refine wp_region_held_drew (S := fun w' => w'.cell? ⟨b, o + k * 3, none⟩ = some (.int .i64 d) ∧ w'.cell? ⟨b, o + k * 3 + 1, none⟩ = some (.slice na tn nc) ∧ w'.cell? ⟨b2, o2 + k * 3, none⟩ = some (.int .i64 d) ∧ w'.cell? ⟨b2, o2 + k * 3 + 1, none⟩ = some (.slice na2 tn nc2)) (by kernel_rfl) ?_ (fun hHeld => ?_); (focus (first | with_reducible exact True.intro | ((try dsimp only); and_intros <;> first | (go_simp; done) | (go_keep; done)))); (refine lexTk 0 (v := ?_) rfl hHeld ?_ (by kernel_rfl) (fun _ _ _ h => h) ?_ ?_; rotate_left 2; (focus rfl); (focus (intro w hSw; (try dsimp only at hSw); first | (go_simp; done) | (go_simp; with_reducible rfl)))); (try simp only [Act.put, List.setIfInBounds_toArray, List.set_cons_zero, List.set_cons_succ]); (refine lexTk 1 (v := ?_) rfl hHeld ?_ (by kernel_rfl) (fun _ _ _ h => h) ?_ ?_; rotate_left 2; (focus rfl); (focus (intro w hSw; (try dsimp only at hSw); first | (go_simp; done) | (go_simp; with_reducible rfl)))); (try simp only [Act.put, List.setIfInBounds_toArray, List.set_cons_zero, List.set_cons_succ]); (refine lexTk 2 (v := ?_) rfl hHeld ?_ (by kernel_rfl) (fun _ _ _ h => h) ?_ ?_; rotate_left 2; (focus rfl); (focus (intro w hSw; (try dsimp only at hSw); first | (go_simp; done) | (go_simp; with_reducible rfl)))); (try simp only [Act.put, List.setIfInBounds_toArray, List.set_cons_zero, List.set_cons_succ]); (refine lexTk 3 (v := ?_) rfl hHeld ?_ (by kernel_rfl) (fun _ _ _ h => h) ?_ ?_; rotate_left 2; (focus rfl); (focus (intro w hSw; (try dsimp only at hSw); first | (go_simp; done) | (go_simp; with_reducible rfl)))); (try simp only [Act.put, List.setIfInBounds_toArray, List.set_cons_zero, List.set_cons_succ]); (first | (refine lexTk 4 (v := ?_) rfl hHeld ?_ (by kernel_rfl) (fun _ _ _ h => h) ?_ ?_; rotate_left 2; (focus rfl); (focus (intro w hSw; (try dsimp only at hSw); first | (go_simp; done) | (go_simp; with_reducible rfl)))) | refine lexSk 4 rfl hHeld ?_ (by kernel_rfl) (fun _ _ _ h => h) (by rfl)); (try simp only [Act.put, List.setIfInBounds_toArray, List.set_cons_zero, List.set_cons_succ]); (first | (refine lexTk 5 (v := ?_) rfl hHeld ?_ (by kernel_rfl) (fun _ _ _ h => h) ?_ ?_; rotate_left 2; (focus rfl); (focus (intro w hSw; (try dsimp only at hSw); first | (go_simp; done) | (go_simp; with_reducible rfl)))) | refine lexSk 5 rfl hHeld ?_ (by kernel_rfl) (fun _ _ _ h => h) (by rfl)); (try simp only [Act.put, List.setIfInBounds_toArray, List.set_cons_zero, List.set_cons_succ]); (first | (refine lexTk 6 (v := ?_) rfl hHeld ?_ (by kernel_rfl) (fun _ _ _ h => h) ?_ ?_; rotate_left 2; (focus rfl); (focus (intro w hSw; (try dsimp only at hSw); first | (go_simp; done) | (go_simp; with_reducible rfl)))) | refine lexSk 6 rfl hHeld ?_ (by kernel_rfl) (fun _ _ _ h => h) (by rfl)); (try simp only [Act.put, List.setIfInBounds_toArray, List.set_cons_zero, List.set_cons_succ]); (first | (refine lexTk 7 (v := ?_) rfl hHeld ?_ (by kernel_rfl) (fun _ _ _ h => h) ?_ ?_; rotate_left 2; (focus rfl); (focus (intro w hSw; (try dsimp only at hSw); first | (go_simp; done) | (go_simp; with_reducible rfl)))) | refine lexSk 7 rfl hHeld ?_ (by kernel_rfl) (fun _ _ _ h => h) (by rfl)); (try simp only [Act.put, List.setIfInBounds_toArray, List.set_cons_zero, List.set_cons_succ]); (first | (refine lexTk 8 (v := ?_) rfl hHeld ?_ (by kernel_rfl) (fun _ _ _ h => h) ?_ ?_; rotate_left 2; (focus rfl); (focus (intro w hSw; (try dsimp only at hSw); first | (go_simp; done) | (go_simp; with_reducible rfl)))) | refine lexSk 8 rfl hHeld ?_ (by kernel_rfl) (fun _ _ _ h => h) (by rfl)); (try simp only [Act.put, List.setIfInBounds_toArray, List.set_cons_zero, List.set_cons_succ]); (first | (refine lexTk 9 (v := ?_) rfl hHeld ?_ (by kernel_rfl) (fun _ _ _ h => h) ?_ ?_; rotate_left 2; (focus rfl); (focus (intro w hSw; (try dsimp only at hSw); first | (go_simp; done) | (go_simp; with_reducible rfl)))) | refine lexSk 9 rfl hHeld ?_ (by kernel_rfl) (fun _ _ _ h => h) (by rfl)); (try simp only [Act.put, List.setIfInBounds_toArray, List.set_cons_zero, List.set_cons_succ]); (first | (refine lexTk 10 (v := ?_) rfl hHeld ?_ (by kernel_rfl) (fun _ _ _ h => h) ?_ ?_; rotate_left 2; (focus rfl); (focus (intro w hSw; (try dsimp only at hSw); first | (go_simp; done) | (go_simp; with_reducible rfl)))) | refine lexSk 10 rfl hHeld ?_ (by kernel_rfl) (fun _ _ _ h => h) (by rfl)); (try simp only [Act.put, List.setIfInBounds_toArray, List.set_cons_zero, List.set_cons_succ]); (first | (refine lexTk 11 (v := ?_) rfl hHeld ?_ (by kernel_rfl) (fun _ _ _ h => h) ?_ ?_; rotate_left 2; (focus rfl); (focus (intro w hSw; (try dsimp only at hSw); first | (go_simp; done) | (go_simp; with_reducible rfl)))) | refine lexSk 11 rfl hHeld ?_ (by kernel_rfl) (fun _ _ _ h => h) (by rfl)); (try simp only [Act.put, List.setIfInBounds_toArray, List.set_cons_zero, List.set_cons_succ]); (first | (refine lexTk 12 (v := ?_) rfl hHeld ?_ (by kernel_rfl) (fun _ _ _ h => h) ?_ ?_; rotate_left 2; (focus rfl); (focus (intro w hSw; (try dsimp only at hSw); first | (go_simp; done) | (go_simp; with_reducible rfl)))) | refine lexSk 12 rfl hHeld ?_ (by kernel_rfl) (fun _ _ _ h => h) (by rfl)); (try simp only [Act.put, List.setIfInBounds_toArray, List.set_cons_zero, List.set_cons_succ]); (first | (refine lexTk 13 (v := ?_) rfl hHeld ?_ (by kernel_rfl) (fun _ _ _ h => h) ?_ ?_; rotate_left 2; (focus rfl); (focus (intro w hSw; (try dsimp only at hSw); first | (go_simp; done) | (go_simp; with_reducible rfl)))) | refine lexSk 13 rfl hHeld ?_ (by kernel_rfl) (fun _ _ _ h => h) (by rfl)); (try simp only [Act.put, List.setIfInBounds_toArray, List.set_cons_zero, List.set_cons_succ]); refine lexHv 14 rfl ?_ (by kernel_rfl); (intro K hK); (go_simp; (go_at_call 22); ((with_reducible refine (HRS.out _ (by (repeat (first | with_reducible exact Below.refl _ _ | with_reducible refine Bs ?_ | with_reducible refine Ba ?_ | with_reducible refine Bd ?_ | with_reducible refine Bn ?_)))).mono ?_)); (rintro e w14 ⟨rfl, b14⟩); (have B14 := Lib.hid (show Below wr.heap.size wr w14 from below_tr (by (repeat (first | with_reducible exact Below.refl _ _ | with_reducible refine Bs ?_ | with_reducible refine Ba ?_ | with_reducible refine Bd ?_ | with_reducible refine Bn ?_))) (b14.mono (by first | omega | (simp; done) | (simp; omega))))); (have y0 : w14.cell? ⟨b, o + k * 3, none⟩ = some (.int .i64 d) := (b14.cell (by first | omega | (simp; done) | (simp; omega))).trans (by go_simp)); (have y1 : w14.cell? ⟨b, o + k * 3 + 1, none⟩ = some (.slice na tn nc) := (b14.cell (by first | omega | (simp; done) | (simp; omega))).trans (by go_simp)); (have y2 : w14.cell? ⟨b2, o2 + k * 3, none⟩ = some (.int .i64 d) := (b14.cell (by first | omega | (simp; done) | (simp; omega))).trans (by go_simp)); (have y3 : w14.cell? ⟨b2, o2 + k * 3 + 1, none⟩ = some (.slice na2 tn nc2) := (b14.cell (by first | omega | (simp; done) | (simp; omega))).trans (by go_simp)); (clear b14); (try go_wp2_with fail)); refine hK.out _ _ ?_ ?_; (focus (first | with_reducible exact True.intro | ((try dsimp only); and_intros <;> first | (go_simp; done) | (go_keep; done)))); (clear hHeld hK K); (intro hHeld); (try simp only [Act.put, List.setIfInBounds_toArray, List.set_cons_zero, List.set_cons_succ]); (first | (refine lexTk 15 (v := ?_) rfl hHeld ?_ (by kernel_rfl) (fun _ _ _ h => h) ?_ ?_; rotate_left 2; (focus rfl); (focus (intro w hSw; (try dsimp only at hSw); first | (go_simp; done) | (go_simp; with_reducible rfl)))) | refine lexSk 15 rfl hHeld ?_ (by kernel_rfl) (fun _ _ _ h => h) (by rfl)); (try simp only [Act.put, List.setIfInBounds_toArray, List.set_cons_zero, List.set_cons_succ]); (refine lexTk 16 (v := ?_) rfl hHeld ?_ (by kernel_rfl) (fun _ _ _ h => h) ?_ ?_; rotate_left 2; (focus rfl); (focus (intro w hSw; (try dsimp only at hSw); first | (go_simp; done) | (go_simp; with_reducible rfl)))); (try simp only [Act.put, List.setIfInBounds_toArray, List.set_cons_zero, List.set_cons_succ]); refine wpAnyH_done (by kernel_rfl) ?_ _
            all_goals
              go_wp2_with fail
              go_roundw
              case rel => exact ⟨k + 1, by go_num, by omega, BR.out.trans (B14.out.mono hz)⟩
              case measure => simp [intOf] <;> omega
        · have hkl : k = PL.length := by omega
          subst hkl
          by_cases hE0 : E = 0
          · subst hE0
            obtain ⟨i0, e0, hi0, hpl, hif⟩ := HOK.out rfl
            rw [← hpl] at hif
            have hisx := fun W v' (h' : GrownsR W v' PL) => HIS.out W v' h'
            rw [hif] at hisx
            have HIX := Lib.hid hisx
            clear HOK HNO hisx hif hpl hlt j4
            go_wp2_with fail
            (with_reducible refine (HIX.out _ _ P4.out).mono ?_)
            rintro e w15 ⟨rfl, b15⟩
            have B15 := Lib.hid (show Below w.heap.size w w15 from BRW.out.trans (b15.mono BRW.out.size))
            clear b15
            go_wp2_with fail
            (with_reducible refine (lives14_any _).mono ?_)
            rintro e w16 ⟨rfl, b16⟩
            have B16 := Lib.hid (show Below w.heap.size w w16 from B15.out.trans (b16.mono B15.out.size))
            clear b16
            go_wp2_with fail
            go_ret
            exact ⟨rfl, B16.out⟩
          · have jz : (E != 0) = true := by simp [hE0]
            clear HOK HNO hlt hE0
            go_wp2_with fail
            (with_reducible refine (lives14_any _).mono ?_)
            rintro e w16 ⟨rfl, b16⟩
            have B16 := Lib.hid (show Below w.heap.size w w16 from BRW.out.trans (b16.mono BRW.out.size))
            clear b16
            go_wp2_with fail
            go_ret
            exact ⟨rfl, B16.out⟩
end Go.Proofs.Ytdbonlpkmncggaa
