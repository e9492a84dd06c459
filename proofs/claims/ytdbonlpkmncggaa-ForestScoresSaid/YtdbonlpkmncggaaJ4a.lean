/-
  ForU: Walks of copseref14.With and copseref14.Put.
  ForV: Walk of copseref14.Put.
-/
import Derived.Test.YtdbonlpkmncggaaKForG
import Derived.Test.YtdbonlpkmncggaaJ2b
namespace Go.Proofs.Ytdbonlpkmncggaa
open Go.RowKit

theorem eiGrown : EI Try.prog 41 (.agg #[.int .i64 0, .slice none 0 0, .int .i64 0]) 3 40 := .of (by kernel_rfl) rfl (by decide) (by decide)

theorem rowG_one {ps : List GrV} {w : World} (h : ∀ p ∈ ps, Ok64 p.1.2 ∧ NodesR w p.2 p.1.1.nodes) : ∀ u ∈ ps.flatMap rowG, u.oneCell' = true := by
  intro u hu
  obtain ⟨p, hp, hu⟩ := List.mem_flatMap.1 hu
  simp only [rowG, List.mem_cons, List.not_mem_nil, or_false] at hu
  rcases hu with rfl | rfl | rfl
  · rfl
  · obtain ⟨a, c, e, _⟩ := (h p hp).2
    rw [e]; rfl
  · rfl

/-- The cells of a slice of grown trees, one by one. -/
theorem rowG_cells {w : World} {a : Option Addr} {ps : List GrV}
    (h : ∀ (i : Nat) (p : GrV), ps[i]? = some p → ∃ b o, a = some ⟨b, o, none⟩ ∧ b < w.heap.size ∧ w.cell? ⟨b, o + i * 3, none⟩ = some (.int .i64 p.1.1.dim) ∧ w.cell? ⟨b, o + i * 3 + 1, none⟩ = some p.2 ∧ w.cell? ⟨b, o + i * 3 + 2, none⟩ = some (.int .i64 p.1.2)) :
    ∀ (j : Nat) (u : Value), (ps.flatMap rowG)[j]? = some u → ∃ b o, a = some ⟨b, o, none⟩ ∧ b < w.heap.size ∧ w.cell? ⟨b, o + j, none⟩ = some u := by
  intro j u hu
  obtain ⟨i, p, hp, hj⟩ := rowG_get hu
  obtain ⟨b, o, g1, g2, g3, g4, g5⟩ := h i p hp
  refine ⟨b, o, g1, g2, ?_⟩
  rcases hj with ⟨rfl, rfl⟩ | ⟨rfl, rfl⟩ | ⟨rfl, rfl⟩
  · exact g3
  · exact g4
  · exact g5

set_option maxRecDepth 100000 in
set_option maxHeartbeats 4000000 in
theorem rwith14_any (v vg : Value) (l : List (TreeP × Int)) (i : Nat) (g : TreeP × Int) (w : World) (h : GrownsR w v l) (hg : GrownV w vg g) (hi : i ≤ l.length) (hl : l.length ≤ 900) :
    Calls Try.prog 54 #[v, .int .i64 (i : Int), vg] w fun e w' => ∃ v', e = .returned v' ∧ GrownsR w' v' (putF l i g) ∧ Below w.heap.size w w' := by
  obtain ⟨gv, rfl, hgo, hgn⟩ := hg
  have HGN := Lib.hid hgn
  have HGO := Lib.hid hgo
  obtain ⟨ps, hp1, hp2, ad, cc, rfl, hp3⟩ := growns_vals h
  have HP1 := Lib.hid hp1
  have HP2 := Lib.hid hp2
  have HP3 := Lib.hid (rowG_cells hp3)
  have hql : ps.length = l.length := by rw [← hp1, List.length_map]
  obtain ⟨ga, gc, rfl, _⟩ := hgn
  obtain ⟨gm, hgm⟩ : ∃ gm, g.1.nodes.length = gm := ⟨_, rfl⟩
  rw [hgm] at HGN ⊢
  obtain ⟨n, hnn⟩ : ∃ n, l.length = n := ⟨_, rfl⟩
  rw [hnn] at hql hl hi ⊢
  have HN := Lib.hid hnn
  have HQL := Lib.hid hql
  obtain ⟨gd, hgd⟩ : ∃ gd, g.1.dim = gd := ⟨_, rfl⟩
  obtain ⟨gz, hgz⟩ : ∃ gz, g.2 = gz := ⟨_, rfl⟩
  rw [hgd, hgz]
  have HGD := Lib.hid hgd
  have HGZ := Lib.hid hgz
  clear h hgo hp1 hp2 hp3 hql hnn hgd hgz hgm
  go_enter Try.func54, Try.ntmps54
  go_wp2_with (at_builtin; go_must (refine appS rfl _ _ 22 rfl Try.underlying22 eiGrown (w.heap.size + 1) (by rfl) (rowAt_own (n := 0) (size := 3) (xs := []) (show w.heap.size + 1 ≤ _ by first | exact Nat.le_refl _ | omega | (simp; done) | (simp; omega)) (row_new (by simp)) (Nat.le_refl 0) (by unfold maxLen; omega) rfl rfl) (by rfl) (by rw [rowG_len, HQL.out]) (fun j u hu => by obtain ⟨b, o, g1, g2, g3⟩ := HP3.out j u hu; exact ⟨b, o, g1, ((show Below w.heap.size w _ from by (repeat (first | with_reducible exact Below.refl _ _ | with_reducible refine Bs ?_ | with_reducible refine Ba ?_ | with_reducible refine Bd ?_ | with_reducible refine Bn ?_))).cell (p := ⟨b, _, none⟩) g2).trans g3⟩) (rowG_one HP2.out) (by omega) (by first | omega | (simp; done) | (simp; omega)) ?_))
  intro v5 w5 o5 g5 nb5
  have HO := Lib.hid o5
  have B5 := Lib.hid (show Below w.heap.size w w5 from (show Below w.heap.size w _ from by (repeat (first | with_reducible exact Below.refl _ _ | with_reducible refine Bs ?_ | with_reducible refine Ba ?_ | with_reducible refine Bd ?_ | with_reducible refine Bn ?_))).grown g5 (by first | omega | (simp; done) | (simp; omega)) (fun k hk => by simp [Value.ownBlock] at hk <;> omega))
  have hno : (Value.slice (some ⟨w.heap.size + 1, 0, none⟩) 0 0).ownBlock ≠ some w.heap.size := fun e => by simp [Value.ownBlock] at e
  have x0 : w5.cell? ⟨w.heap.size, 0, none⟩ = some (.int .i64 gd) := (gcell g5 (by simp; omega) hno).trans (by go_simp)
  have x1 : w5.cell? ⟨w.heap.size, 1, none⟩ = some (.slice ga gm gc) := (gcell g5 (by simp; omega) hno).trans (by go_simp)
  have x2 : w5.cell? ⟨w.heap.size, 2, none⟩ = some (.int .i64 gz) := (gcell g5 (by simp; omega) hno).trans (by go_simp)
  have hz5 := g5.size
  simp at hz5
  obtain ⟨a5, n5, c5, rfl⟩ := own_shape o5
  obtain rfl : n = n5 := by
    rcases o5.2 with ⟨e, h0⟩ | ⟨_, _, _, e, _⟩
    · injection e with _ e _; omega
    · injection e with _ e _; exact e.symm
  clear o5 g5 nb5 hno
  have HPM := Lib.hid (show ∀ p ∈ ps, Ok64 p.1.2 ∧ NodesR w5 p.2 p.1.1.nodes from fun p hp => ⟨(HP2.out p hp).1, (HP2.out p hp).2.below B5.out⟩)
  have HGN5 := Lib.hid (HGN.out.below B5.out)
  by_cases hin : i = n
  · subst hin
    have j1 : ((i : Int) == (i : Int)) = true := by simp
    go_wp2_with (at_builtin; go_must (refine app1N rfl _ _ 22 rfl Try.underlying22 eiGrown (w.heap.size + 1) (by rfl) HO.out (by rfl) (by simp) rfl (by simp [Value.oneCell']) (by omega) (by omega) ?_))
    intro v6 w6 o6 g6 nb6
    have B6 := Lib.hid (show Below w.heap.size w w6 from B5.out.grown g6 (by omega) (fun k hk => by have := (HO.out.lt k hk).1; omega))
    have hgr : GrownsR w6 v6 (putF l i g) := by
      have := own_growns (ps := ps ++ [(g, .slice ga gm gc)]) (by rw [List.flatMap_append]; simpa [rowG, HGD.out, HGZ.out] using o6) (by rw [List.length_append, HQL.out]; rfl) (by omega) (fun p hp => by
        rcases List.mem_append.1 hp with hp | hp
        · exact ⟨(HP2.out p hp).1, (HP2.out p hp).2.below B6.out⟩
        · obtain rfl : p = (g, .slice ga gm gc) := by simpa using hp
          exact ⟨HGO.out, HGN.out.below B6.out⟩)
      rw [List.map_append, HP1.out] at this
      unfold putF
      rw [if_pos HN.out.symm]
      exact this
    have HGR := Lib.hid hgr
    obtain ⟨a6, n6, c6, rfl⟩ := own_shape o6
    clear o6 g6 nb6 hgr
    go_wp2_with fail
    go_ret
    exact ⟨_, rfl, HGR.out, B6.out⟩
  · have j1 : ((i : Int) == (n : Int)) = false := by rw [beq_eq_false_iff_ne]; omega
    have hlt : i < n := by omega
    obtain ⟨g5, c, hgc, hg1, hg2⟩ := own_some2 HO.out (by omega)
    injection hgc with ha _ hc
    subst ha hc
    obtain ⟨q, hq⟩ := getElem?_ex (l := ps) (k := i) (by rw [HQL.out]; exact hlt)
    obtain ⟨r0, r1, r2⟩ := rowG_at ps i q hq
    have y0 := (HO.out.cellAt (i * 3) (by omega)).trans r0
    have y1 := (HO.out.cellAt (i * 3 + 1) (by omega)).trans r1
    have y2 := (HO.out.cellAt (i * 3 + 2) (by omega)).trans r2
    obtain ⟨cur, _, _, _, hrow, _⟩ := own_rowAt HO.out
    have f0 := hrow.frozen (i * 3)
    have f1 := hrow.frozen (i * 3 + 1)
    have f2 := hrow.frozen (i * 3 + 2)
    have i1 : (0 : Int) ≤ (i : Int) := by omega
    have i2 : (i : Int) < (n : Int) := by omega
    clear hrow r0 r1 r2 hq
    go_wp2_with fail
    go_ret
    refine ⟨_, rfl, ?_, (((B5.out.setCell (show w.heap.size ≤ g5 by omega) _).setCell (show w.heap.size ≤ g5 by omega) _).setCell (show w.heap.size ≤ g5 by omega) _)⟩
    have o6 := own_setAt (own_setAt (own_setAt HO.out (i * 3) (.int .i64 gd)) (i * 3 + 1) (.slice ga gm gc)) (i * 3 + 2) (.int .i64 gz)
    have hset := rowG_set ps i (g, .slice ga gm gc) (by rw [HQL.out]; exact hlt)
    rw [HGD.out, HGZ.out] at hset
    rw [hset] at o6
    have B7 : Below w.heap.size w (((w5.setCell ⟨g5, i * 3, none⟩ (.int .i64 gd)).setCell ⟨g5, i * 3 + 1, none⟩ (.slice ga gm gc)).setCell ⟨g5, i * 3 + 2, none⟩ (.int .i64 gz)) := (((B5.out.setCell (show w.heap.size ≤ g5 by omega) _).setCell (show w.heap.size ≤ g5 by omega) _).setCell (show w.heap.size ≤ g5 by omega) _)
    have := own_growns (ps := ps.set i (g, .slice ga gm gc)) o6 (by rw [List.length_set, HQL.out]) (by omega) (fun p hp => by
      rcases List.mem_or_eq_of_mem_set hp with hp | rfl
      · exact ⟨(HP2.out p hp).1, (HP2.out p hp).2.below B7⟩
      · exact ⟨HGO.out, HGN.out.below B7⟩)
    rw [List.map_set, HP1.out] at this
    unfold putF
    rw [if_neg (by rw [HN.out]; exact hin)]
    exact this
end Go.Proofs.Ytdbonlpkmncggaa

namespace Go.Proofs.Ytdbonlpkmncggaa
open Go.RowKit

theorem fputL_no {l : List (TreeP × Int)} {i : Int} {g : TreeP × Int} (h : fputE l i g ≠ 0) : fputL l i g = [] := by unfold fputL; rw [if_neg h]
theorem fputL_yes {l : List (TreeP × Int)} {i : Int} {g : TreeP × Int} (h : fputE l i g = 0) : fputL l i g = putF l i.toNat g := by unfold fputL; rw [if_pos h]

theorem growns_nil (w : World) (c : Nat) (hc : c ≤ 9223372036854775807) : GrownsR w (.slice none 0 c) [] := ⟨none, c, rfl, by simp, hc, by simp, fun i p hi => by simp at hi⟩

set_option maxRecDepth 100000 in
set_option maxHeartbeats 4000000 in
theorem rput14_any (v vg : Value) (l : List (TreeP × Int)) (i : Int) (g : TreeP × Int) (w : World) (h : GrownsR w v l) (hg : GrownV w vg g) :
    Calls Try.prog 25 #[v, .int .i64 i, vg] w fun e w' => ∃ v', e = .returned (.tuple #[v', .int .i64 (fputE l i g)]) ∧ GrownsR w' v' (fputL l i g) ∧ Below w.heap.size w w' := by
  have HG := Lib.hid h
  have HV := Lib.hid hg
  obtain ⟨gv, rfl, hgo, hgn⟩ := hg
  obtain ⟨ga, gc, rfl, _⟩ := hgn
  obtain ⟨FB, hFB⟩ : ∃ FB, isF l = FB := ⟨_, rfl⟩
  have HF := Lib.hid (fun W (hW : GrownsR W v l) => hFB ▸ ris14_any v l W hW)
  have HFB := Lib.hid hFB
  have HIS := Lib.hid (fun v' L W (hW : GrownsR W v' L) => ris14_any v' L W hW)
  have HWI := Lib.hid (fun (k : Nat) (W : World) vg' (hW : GrownsR W v l) (hV : GrownV W vg' g) (h1 : k ≤ l.length) (h2 : l.length ≤ 900) => rwith14_any v vg' l k g W hW hV h1 h2)
  obtain ⟨ad, cc, rfl, _, _, q3, _⟩ := h
  obtain ⟨n, hnn⟩ : ∃ n, l.length = n := ⟨_, rfl⟩
  rw [hnn] at q3 HG HF HWI ⊢
  have HN := Lib.hid hnn
  obtain ⟨gm, hgm⟩ : ∃ gm, g.1.nodes.length = gm := ⟨_, rfl⟩
  obtain ⟨gd, hgd⟩ : ∃ gd, g.1.dim = gd := ⟨_, rfl⟩
  obtain ⟨gz, hgz⟩ : ∃ gz, g.2 = gz := ⟨_, rfl⟩
  rw [hgm, hgd, hgz] at HV ⊢
  obtain ⟨E, hE⟩ : ∃ E, fputE l i g = E := ⟨_, rfl⟩
  rw [hE]
  have HE := Lib.hid hE
  unfold fputE at hE
  rw [hFB, hnn] at hE
  clear hnn hFB hgm hgd hgz hgo
  cases FB with
  | false =>
    have GE := Lib.hid (show E = 140 by rw [← hE, if_pos rfl])
    have GL := Lib.hid (fputL_no (show fputE l i g ≠ 0 by rw [HE.out, GE.out]; decide))
    clear hE
    go_enter Try.func25, Try.ntmps25
    go_wp2_with fail
    (with_reducible refine (HF.out _ (HG.out.below (by (repeat (first | with_reducible exact Below.refl _ _ | with_reducible refine Bs ?_ | with_reducible refine Ba ?_ | with_reducible refine Bd ?_ | with_reducible refine Bn ?_))))).mono ?_)
    rintro e w1 ⟨rfl, b1⟩
    have B1 := Lib.hid (show Below w.heap.size w w1 from below_tr (by (repeat (first | with_reducible exact Below.refl _ _ | with_reducible refine Bs ?_ | with_reducible refine Ba ?_ | with_reducible refine Bd ?_ | with_reducible refine Bn ?_))) (b1.mono (by simp)))
    clear b1
    go_wp2_with fail
    exact bodyPost_ret (v := .tuple #[.slice none 0 0, .int .i64 140]) (by simp [results, Try.results25, go_sem]) rfl ⟨_, by rw [GE.out], by rw [GL.out]; exact growns_nil _ _ (by omega), B1.out⟩
  | true =>
    rw [if_neg (by decide)] at hE
    have hn16 : n ≤ 16 := by have := isF_len HFB.out; rw [HN.out] at this; exact this
    by_cases h1 : i < 0 ∨ (n : Int) < i
    · have GE := Lib.hid (show E = 1 by rw [← hE, if_pos h1])
      have GL := Lib.hid (fputL_no (show fputE l i g ≠ 0 by rw [HE.out, GE.out]; decide))
      clear hE
      rcases Int.lt_or_le i 0 with h2 | h2
      · go_enter Try.func25, Try.ntmps25
        go_wp2_with fail
        (with_reducible refine (HF.out _ (HG.out.below (by (repeat (first | with_reducible exact Below.refl _ _ | with_reducible refine Bs ?_ | with_reducible refine Ba ?_ | with_reducible refine Bd ?_ | with_reducible refine Bn ?_))))).mono ?_)
        rintro e w1 ⟨rfl, b1⟩
        have B1 := Lib.hid (show Below w.heap.size w w1 from below_tr (by (repeat (first | with_reducible exact Below.refl _ _ | with_reducible refine Bs ?_ | with_reducible refine Ba ?_ | with_reducible refine Bd ?_ | with_reducible refine Bn ?_))) (b1.mono (by simp)))
        clear b1
        go_wp2_with fail
        exact bodyPost_ret (v := .tuple #[.slice none 0 0, .int .i64 1]) (by simp [results, Try.results25, go_sem]) rfl ⟨_, by rw [GE.out], by rw [GL.out]; exact growns_nil _ _ (by omega), B1.out⟩
      · have h3 : (n : Int) < i := by omega
        have h4 : ¬ i < 0 := by omega
        clear h1
        go_enter Try.func25, Try.ntmps25
        go_wp2_with fail
        (with_reducible refine (HF.out _ (HG.out.below (by (repeat (first | with_reducible exact Below.refl _ _ | with_reducible refine Bs ?_ | with_reducible refine Ba ?_ | with_reducible refine Bd ?_ | with_reducible refine Bn ?_))))).mono ?_)
        rintro e w1 ⟨rfl, b1⟩
        have B1 := Lib.hid (show Below w.heap.size w w1 from below_tr (by (repeat (first | with_reducible exact Below.refl _ _ | with_reducible refine Bs ?_ | with_reducible refine Ba ?_ | with_reducible refine Bd ?_ | with_reducible refine Bn ?_))) (b1.mono (by simp)))
        clear b1
        go_wp2_with fail
        exact bodyPost_ret (v := .tuple #[.slice none 0 0, .int .i64 1]) (by simp [results, Try.results25, go_sem]) rfl ⟨_, by rw [GE.out], by rw [GL.out]; exact growns_nil _ _ (by omega), B1.out⟩
    · rw [if_neg h1] at hE
      have h2 : ¬ i < 0 := by omega
      have h3 : ¬ (n : Int) < i := by omega
      clear h1
      by_cases h16 : i = 16
      · subst h16
        have GE := Lib.hid (show E = 3 by rw [← hE, if_pos rfl])
        have GL := Lib.hid (fputL_no (show fputE l 16 g ≠ 0 by rw [HE.out, GE.out]; decide))
        clear hE
        go_enter Try.func25, Try.ntmps25
        go_wp2_with fail
        (with_reducible refine (HF.out _ (HG.out.below (by (repeat (first | with_reducible exact Below.refl _ _ | with_reducible refine Bs ?_ | with_reducible refine Ba ?_ | with_reducible refine Bd ?_ | with_reducible refine Bn ?_))))).mono ?_)
        rintro e w1 ⟨rfl, b1⟩
        have B1 := Lib.hid (show Below w.heap.size w w1 from below_tr (by (repeat (first | with_reducible exact Below.refl _ _ | with_reducible refine Bs ?_ | with_reducible refine Ba ?_ | with_reducible refine Bd ?_ | with_reducible refine Bn ?_))) (b1.mono (by simp)))
        clear b1
        go_wp2_with fail
        exact bodyPost_ret (v := .tuple #[.slice none 0 0, .int .i64 3]) (by simp [results, Try.results25, go_sem]) rfl ⟨_, by rw [GE.out], by rw [GL.out]; exact growns_nil _ _ (by omega), B1.out⟩
      · rw [if_neg h16] at hE
        obtain ⟨k, rfl⟩ : ∃ k : Nat, i = (k : Int) := ⟨i.toNat, by omega⟩
        have hkn : k ≤ n := by omega
        have j16 : ((k : Int) == 16) = false := by rw [beq_eq_false_iff_ne]; exact h16
        rw [Int.toNat_natCast] at hE
        obtain ⟨PL, hPL⟩ : ∃ PL, putF l k g = PL := ⟨_, rfl⟩
        have HPL := Lib.hid hPL
        rw [hPL] at hE
        have hwi := fun W vg' hW hV => HWI.out k W vg' hW hV hkn (by omega)
        rw [hPL] at hwi
        have HWI := Lib.hid hwi
        obtain ⟨PB, hPB⟩ : ∃ PB, isF PL = PB := ⟨_, rfl⟩
        rw [hPB] at hE
        have HI2 := Lib.hid (fun v' W (hW : GrownsR W v' PL) => hPB ▸ HIS.out v' PL W hW)
        clear hPB hPL hwi h16
        cases PB with
        | false =>
          have GE := Lib.hid (show E = 100 by rw [← hE, if_pos rfl])
          have GL := Lib.hid (fputL_no (show fputE l k g ≠ 0 by rw [HE.out, GE.out]; decide))
          clear hE
          go_enter Try.func25, Try.ntmps25
          go_wp2_with fail
          (with_reducible refine (HF.out _ (HG.out.below (by (repeat (first | with_reducible exact Below.refl _ _ | with_reducible refine Bs ?_ | with_reducible refine Ba ?_ | with_reducible refine Bd ?_ | with_reducible refine Bn ?_))))).mono ?_); rintro e w1 ⟨rfl, b1⟩; have s1 : w.heap.size + 1 ≤ w1.heap.size := sz b1; have B1 := Lib.hid (Bc (B := w.heap.size) (a := w) (by (repeat (first | with_reducible exact Below.refl _ _ | with_reducible refine Bs ?_ | with_reducible refine Ba ?_ | with_reducible refine Bd ?_ | with_reducible refine Bn ?_))) b1); obtain ⟨c1_0, c1_1, c1_2⟩ := k3 (w.heap.size) (.int .i64 gd) (.slice ga gm gc) (.int .i64 gz) b1 (by and_intros <;> go_simp); obtain ⟨l1_0, n1_0, m1_0⟩ := lnm (show w.heap.size < w1.heap.size by omega); clear b1
          go_wp2_with fail
          (with_reducible refine (HWI.out _ _ (HG.out.below B1.out) (HV.out.below B1.out)).mono ?_)
          rintro e w2 ⟨v2, rfl, g2, b2⟩
          have G2 := Lib.hid g2
          have B2 := Lib.hid (show Below w.heap.size w w2 from B1.out.trans (b2.mono B1.out.size))
          obtain ⟨ra, rc, rfl, _⟩ := g2
          clear b2
          go_wp2_with fail
          (with_reducible refine (HI2.out _ _ G2.out).mono ?_)
          rintro e w3 ⟨rfl, b3⟩
          have B3 := Lib.hid (show Below w.heap.size w w3 from B2.out.trans (b3.mono B2.out.size))
          clear b3
          go_wp2_with fail
          exact bodyPost_ret (v := .tuple #[.slice none 0 0, .int .i64 100]) (by simp [results, Try.results25, go_sem]) rfl ⟨_, by rw [GE.out], by rw [GL.out]; exact growns_nil _ _ (by omega), B3.out⟩
        | true =>
          have GE := Lib.hid (show E = 0 by rw [← hE, if_neg (by decide)])
          have GL := Lib.hid (show fputL l k g = PL by rw [fputL_yes (by rw [HE.out, GE.out]), Int.toNat_natCast, HPL.out])
          clear hE
          go_enter Try.func25, Try.ntmps25
          go_wp2_with fail
          (with_reducible refine (HF.out _ (HG.out.below (by (repeat (first | with_reducible exact Below.refl _ _ | with_reducible refine Bs ?_ | with_reducible refine Ba ?_ | with_reducible refine Bd ?_ | with_reducible refine Bn ?_))))).mono ?_); rintro e w1 ⟨rfl, b1⟩; have s1 : w.heap.size + 1 ≤ w1.heap.size := sz b1; have B1 := Lib.hid (Bc (B := w.heap.size) (a := w) (by (repeat (first | with_reducible exact Below.refl _ _ | with_reducible refine Bs ?_ | with_reducible refine Ba ?_ | with_reducible refine Bd ?_ | with_reducible refine Bn ?_))) b1); obtain ⟨c1_0, c1_1, c1_2⟩ := k3 (w.heap.size) (.int .i64 gd) (.slice ga gm gc) (.int .i64 gz) b1 (by and_intros <;> go_simp); obtain ⟨l1_0, n1_0, m1_0⟩ := lnm (show w.heap.size < w1.heap.size by omega); clear b1
          go_wp2_with fail
          (with_reducible refine (HWI.out _ _ (HG.out.below B1.out) (HV.out.below B1.out)).mono ?_)
          rintro e w2 ⟨v2, rfl, g2, b2⟩
          have G2 := Lib.hid g2
          have B2 := Lib.hid (show Below w.heap.size w w2 from B1.out.trans (b2.mono B1.out.size))
          obtain ⟨ra, rc, rfl, _⟩ := g2
          clear b2
          go_wp2_with fail
          (with_reducible refine (HI2.out _ _ G2.out).mono ?_)
          rintro e w3 ⟨rfl, b3⟩
          have B3 := Lib.hid (show Below w.heap.size w w3 from B2.out.trans (b3.mono B2.out.size))
          have G3 := Lib.hid (G2.out.below b3)
          clear b3
          go_wp2_with fail
          exact bodyPost_ret (v := .tuple #[.slice ra PL.length rc, .int .i64 0]) (by simp [results, Try.results25, go_sem]) rfl ⟨_, by rw [GE.out], by rw [GL.out]; exact G3.out, B3.out⟩
end Go.Proofs.Ytdbonlpkmncggaa
