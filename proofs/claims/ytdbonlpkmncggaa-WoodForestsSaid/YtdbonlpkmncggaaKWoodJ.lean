/-
  WoodJ: Walk of the reference's GetTree.
-/
import Derived.Test.YtdbonlpkmncggaaKWoodG
import Derived.Test.YtdbonlpkmncggaaJ3a
import Derived.Test.YtdbonlpkmncggaaKRefTreeA
namespace Go.Proofs.Ytdbonlpkmncggaa
open Go.RowKit

theorem rnode_any (v : Value) (l : List Int) (hb : AllB l) (hl : l.length ≤ 100000) (d : Nat) (hd : d ≤ 8) : ∀ ht, RNodeC v l d ht
  | 0 => rnode_zero v l d
  | ht + 1 => rnode_step v l hb hl d hd ht (rnode_any v l hb hl d hd ht)

theorem RN.start {W : World} {v : Value} {l : List Int} (h : Ints .u8 W v l) : RN W.heap.size W.heap.size v l W (.slice none 0 0) [] := by
  refine ⟨⟨Nat.le_refl _, Nat.le_refl _⟩, h, fun hn g hg => ?_, World.ownsRow_nil _ _ _ _, fun g hg => by simp [Value.ownBlock] at hg, fun p hp => by simp at hp⟩
  obtain ⟨a, c, rfl, _, _, _, h4⟩ := h
  obtain ⟨o', n', c', e⟩ := hg
  injection e with e1 _ _
  cases l with
  | nil => exact absurd rfl hn
  | cons x l =>
    obtain ⟨b, o, e2, hb, _⟩ := h4 0 x rfl
    rw [e1] at e2
    injection e2 with e2
    injection e2 with e3 _ _
    omega

theorem RN.nodes {B K : Nat} {v ov : Value} {l : List Int} {U : World} {ps : List (NodeP × Value)} (S : RN B K v l U ov ps) (hn : ps.length ≤ 100000) : NodesF B U ov (ps.map (·.1)) := fun W hW hz =>
  own_nodes (own_at S.ou fun g hg => hW g (S.ub hg).1 (Nat.lt_of_lt_of_le (S.ub hg).2 S.hK.2)) rfl hn fun p hp => ints_kept' (S.cf p hp).1 (fun h g hgo => by
    obtain ⟨h1, h2, _⟩ := (S.cf p hp).2 h g hgo
    exact hW g h1 (Nat.lt_of_lt_of_le h2 S.hK.2)) hz

theorem rnode_top (v : Value) (l : List Int) (hb : AllB l) (hl : l.length ≤ 100000) (d p : Nat) (hd : d ≤ 8) (hp : p ≤ l.length) (W : World) (hW : Ints .u8 W v l) :
    Calls Try.prog 77 #[.agg #[v, .int .i64 (p : Int), .int .i64 0], .int .i64 (d : Int), .int .i64 6, .slice none 0 0] W fun e w' => ∃ oa n c, e = .returned (.tuple #[.agg #[v, .int .i64 ((rdNodes l d p).2.1 : Int), .int .i64 (rdNodes l d p).2.2], .slice oa n c]) ∧ Below W.heap.size W w' ∧ ∀ T, (rdNodes l d p).1 = some T → NodesF W.heap.size w' (.slice oa n c) (T.flat 0) := by
  refine (rnode_any v l hb hl d hd 7 6 rfl (by omega) W.heap.size W (.slice none 0 0) [] p (RN.start hW) hp (by simp)).mono ?_
  rintro e w' ⟨oa, n, c, rfl, g, h⟩
  refine ⟨oa, n, c, rfl, ⟨g.os, g.tape, g.output, g.size, fun b hb => g.block b hb (by simp [Value.ownBlock])⟩, fun T hT => ?_⟩
  obtain ⟨qs, h1, h2, _, h4, _⟩ := h T hT
  have hok := rdB_ok hb d 7 p T _ _ (show rdB l d 7 p = (some T, (rdB l d 7 p).2.1, (rdB l d 7 p).2.2) from Prod.ext hT rfl)
  have hc := BT.cnt_bd T 7 hok.2
  have hq : qs.length = T.cnt := by rw [← List.length_map (f := (·.1)), h2, BT.flat_len]
  rw [List.nil_append] at h4
  have := h4.nodes (by omega)
  rw [h2] at this
  exact this

theorem rFail211 (va : Option Addr) (n vc : Nat) (a : Int) (W : World) : Calls Try.prog 76 #[.agg #[.slice va n vc, .int .i64 a, .int .i64 0], .int .i64 211] W fun e w' => e = .returned (.agg #[.slice va n vc, .int .i64 a, .int .i64 211]) ∧ Below W.heap.size W w' := by
  have := rFail_all (.slice va n vc) va n vc rfl a 0 211 W
  rw [failE_pos _ (by decide)] at this
  exact this

set_option maxRecDepth 100000 in
set_option maxHeartbeats 16000000 in
theorem rgetTree_any (v : Value) (l : List Int) (a : Nat) (e : Int) (w : World) (h : Ints .u8 w v l) (hb : AllB l) (ha : a ≤ l.length) (hl : l.length ≤ 100000) :
    Calls Try.prog 40 #[.agg #[v, .int .i64 (a : Int), .int .i64 e]] w fun e' w' => ∃ d nv, e' = .returned (.tuple #[.agg #[v, .int .i64 ((gT l a e).2.1 : Int), .int .i64 (gT l a e).2.2], .agg #[.int .i64 d, nv]]) ∧ Below w.heap.size w w' ∧ d = (gT l a e).1.dim ∧ NodesF w.heap.size w' nv (gT l a e).1.nodes := by
  obtain ⟨va, vc, rfl⟩ := h.shape
  have VI := Lib.hid h
  have HB := Lib.hid hb
  obtain ⟨⟨d, p, e1⟩, h1⟩ : ∃ r, rdN' l a e 8 = r := ⟨_, rfl⟩
  have H1 := Lib.hid h1
  have hp : p ≤ l.length := by have := rdN'_le hb ha e 8; rw [h1] at this; exact this
  have HP := Lib.hid hp
  have hf := rdN'_facts l hb a e 8
  rw [h1] at hf
  obtain ⟨z, hz⟩ : ∃ z, z = (d : Int) := ⟨_, rfl⟩
  have HZ := Lib.hid hz
  have HN := Lib.hid (fun W (hW : Ints .u8 W (.slice va l.length vc) l) => show Calls Try.prog 75 #[.agg #[.slice va l.length vc, .int .i64 (a : Int), .int .i64 e], .int .i64 8] W fun e' w' => e' = .returned (.tuple #[.agg #[.slice va l.length vc, .int .i64 (p : Int), .int .i64 e1], .int .i64 z]) ∧ Below W.heap.size W w' from by
    have := rReadN_all (.slice va l.length vc) l a e 8 W hW hb ha hl (by unfold Ok64; omega)
    rw [h1] at this
    rw [hz]
    exact this)
  by_cases he : e1 = 0
  · subst he
    by_cases hd : d = 0
    · have hz0 : z = 0 := by omega
      have HG := Lib.hid (show gT l a e = (tree0, p, 211) from by subst hd; exact gT_zero h1)
      clear hf h hb h1 hp hz hd
      subst hz0
      go_enter Try.func40, Try.ntmps40
      go_wp2_with fail
      (with_reducible refine (HN.out _ (VI.out.below (by (repeat (first | with_reducible exact Below.refl _ _ | with_reducible refine Bs ?_ | with_reducible refine Ba ?_ | with_reducible refine Bd ?_ | with_reducible refine Bn ?_))))).mono ?_); rintro e w1 ⟨rfl, b1⟩; have s1 : w.heap.size + 1 + 1 + 1 ≤ w1.heap.size := sz b1; have B1 := Lib.hid (Bc (B := w.heap.size) (a := w) (by (repeat (first | with_reducible exact Below.refl _ _ | with_reducible refine Bs ?_ | with_reducible refine Ba ?_ | with_reducible refine Bd ?_ | with_reducible refine Bn ?_))) b1); obtain ⟨c1_0, f1_0, c1_1, f1_1, c1_2, f1_2⟩ := k3f (w.heap.size + 1) (.slice none 0 0) (.int .i64 0) (.int .i64 0) b1 (by and_intros <;> go_simp); obtain ⟨c1_3, f1_3, c1_4, f1_4⟩ := k2f (w.heap.size + 2) (.int .i64 0) (.slice none 0 0) b1 (by and_intros <;> go_simp); obtain ⟨l1_0, n1_0, m1_0⟩ := lnm (show w.heap.size + 1 < w1.heap.size by omega); obtain ⟨l1_1, n1_1, m1_1⟩ := lnm (show w.heap.size + 2 < w1.heap.size by omega); clear b1
      go_wp2_with fail
      (with_reducible refine (rFail211 va l.length vc (p : Int) _).mono ?_); rintro e w2 ⟨rfl, b2⟩; have s2 : w1.heap.size + 1 ≤ w2.heap.size := sz b2; have B2 := Lib.hid (Bc (B := w.heap.size) (a := w) (by (repeat (first | with_reducible exact Below.refl _ _ | with_reducible refine Bs ?_ | with_reducible refine Ba ?_ | with_reducible refine Bd ?_ | with_reducible refine Bn ?_ | with_reducible refine Bt B1.out ?_))) b2); obtain ⟨c2_0, f2_0, c2_1, f2_1, c2_2, f2_2⟩ := k3f (w.heap.size + 1) (.slice none 0 0) (.int .i64 0) (.int .i64 0) b2 (by and_intros <;> go_simp); obtain ⟨c2_3, f2_3, c2_4, f2_4⟩ := k2f (w.heap.size + 2) (.int .i64 0) (.slice none 0 0) b2 (by and_intros <;> go_simp); obtain ⟨c2_5, f2_5, c2_6, f2_6, c2_7, f2_7⟩ := k3f (w1.heap.size) (.slice va l.length vc) (.int .i64 (p : Int)) (.int .i64 0) b2 (by and_intros <;> go_simp); obtain ⟨l2_0, n2_0, m2_0⟩ := lnm (show w.heap.size + 1 < w2.heap.size by omega); obtain ⟨l2_1, n2_1, m2_1⟩ := lnm (show w.heap.size + 2 < w2.heap.size by omega); obtain ⟨l2_2, n2_2, m2_2⟩ := lnm (show w1.heap.size < w2.heap.size by omega); clear b2
      go_wp2_with fail
      exact bodyPost_ret (v := .tuple #[.agg #[.slice va l.length vc, .int .i64 (p : Int), .int .i64 211], .agg #[.int .i64 0, .slice none 0 0]]) (by simp [results, Try.results40, go_sem, *]) rfl (by rw [HG.out]; exact ⟨_, _, rfl, (by (repeat (first | with_reducible exact Below.refl _ _ | with_reducible refine Bs ?_ | with_reducible refine Ba ?_ | with_reducible refine Bd ?_ | with_reducible refine Bn ?_ | with_reducible refine Bt B2.out ?_))), rfl, NodesF.nil _ _⟩)
    · have hd8 := (hf.2 rfl).2.2
      have hd8' : d ≤ 8 := by simp only at hd8; omega
      have hz0 : (z == 0) = false := by rw [beq_eq_false_iff_ne]; omega
      obtain ⟨⟨ro, p2, e2⟩, h2⟩ : ∃ r, rdNodes l d p = r := ⟨_, rfl⟩
      have HNO := Lib.hid (fun W (hW : Ints .u8 W (.slice va l.length vc) l) => show Calls Try.prog 77 #[.agg #[.slice va l.length vc, .int .i64 (p : Int), .int .i64 0], .int .i64 z, .int .i64 6, .slice none 0 0] W fun e' w' => ∃ oa n c, e' = .returned (.tuple #[.agg #[.slice va l.length vc, .int .i64 (p2 : Int), .int .i64 e2], .slice oa n c]) ∧ Below W.heap.size W w' ∧ ∀ T, ro = some T → NodesF W.heap.size w' (.slice oa n c) (T.flat 0) from by
        have := rnode_top (.slice va l.length vc) l hb hl d p hd8' hp W hW
        rw [h2, ← hz] at this
        exact this)
      have hsp := rdB_spec hb d 7 p hp
      cases ro with
      | none =>
        have he2 := (hsp.1 p2 e2 h2).1
        have j1 : (e2 == 0) = false := by rw [beq_eq_false_iff_ne]; exact he2
        have j2 : (e2 != 0) = true := by simp [he2]
        have HG := Lib.hid (gT_none h1 hd h2)
        clear hsp hf h hb h1 hp hz hd hd8 hd8' h2 he2
        go_enter Try.func40, Try.ntmps40
        go_wp2_with fail
        (with_reducible refine (HN.out _ (VI.out.below (by (repeat (first | with_reducible exact Below.refl _ _ | with_reducible refine Bs ?_ | with_reducible refine Ba ?_ | with_reducible refine Bd ?_ | with_reducible refine Bn ?_))))).mono ?_); rintro e w1 ⟨rfl, b1⟩; have s1 : w.heap.size + 1 + 1 + 1 ≤ w1.heap.size := sz b1; have B1 := Lib.hid (Bc (B := w.heap.size) (a := w) (by (repeat (first | with_reducible exact Below.refl _ _ | with_reducible refine Bs ?_ | with_reducible refine Ba ?_ | with_reducible refine Bd ?_ | with_reducible refine Bn ?_))) b1); obtain ⟨c1_0, f1_0, c1_1, f1_1, c1_2, f1_2⟩ := k3f (w.heap.size + 1) (.slice none 0 0) (.int .i64 0) (.int .i64 0) b1 (by and_intros <;> go_simp); obtain ⟨c1_3, f1_3, c1_4, f1_4⟩ := k2f (w.heap.size + 2) (.int .i64 0) (.slice none 0 0) b1 (by and_intros <;> go_simp); obtain ⟨l1_0, n1_0, m1_0⟩ := lnm (show w.heap.size + 1 < w1.heap.size by omega); obtain ⟨l1_1, n1_1, m1_1⟩ := lnm (show w.heap.size + 2 < w1.heap.size by omega); clear b1
        go_wp2_with fail
        (with_reducible refine (HNO.out _ (VI.out.below (by (repeat (first | with_reducible exact Below.refl _ _ | with_reducible refine Bs ?_ | with_reducible refine Ba ?_ | with_reducible refine Bd ?_ | with_reducible refine Bn ?_ | with_reducible refine Bt B1.out ?_))))).mono ?_); rintro e w2 ⟨oa, n, c, rfl, b2, -⟩; have s2 : w1.heap.size + 1 ≤ w2.heap.size := sz b2; have B2 := Lib.hid (Bc (B := w.heap.size) (a := w) (by (repeat (first | with_reducible exact Below.refl _ _ | with_reducible refine Bs ?_ | with_reducible refine Ba ?_ | with_reducible refine Bd ?_ | with_reducible refine Bn ?_ | with_reducible refine Bt B1.out ?_))) b2); obtain ⟨c2_0, f2_0, c2_1, f2_1, c2_2, f2_2⟩ := k3f (w.heap.size + 1) (.slice none 0 0) (.int .i64 0) (.int .i64 0) b2 (by and_intros <;> go_simp); obtain ⟨c2_3, f2_3, c2_4, f2_4⟩ := k2f (w.heap.size + 2) (.int .i64 0) (.slice none 0 0) b2 (by and_intros <;> go_simp); obtain ⟨l2_0, n2_0, m2_0⟩ := lnm (show w.heap.size + 1 < w2.heap.size by omega); obtain ⟨l2_1, n2_1, m2_1⟩ := lnm (show w.heap.size + 2 < w2.heap.size by omega); clear b2
        obtain ⟨la1, la2, la3⟩ := lnm (show w.heap.size < w2.heap.size by omega)
        go_wp2_with fail
        exact bodyPost_ret (v := .tuple #[.agg #[.slice va l.length vc, .int .i64 (p2 : Int), .int .i64 e2], .agg #[.int .i64 0, .slice none 0 0]]) (by simp [results, Try.results40, go_sem, *]) rfl (by rw [HG.out]; exact ⟨_, _, rfl, (by (repeat (first | with_reducible exact Below.refl _ _ | with_reducible refine Bs ?_ | with_reducible refine Ba ?_ | with_reducible refine Bd ?_ | with_reducible refine Bn ?_ | with_reducible refine Bt B2.out ?_))), rfl, NodesF.nil _ _⟩)
      | some T =>
        have he2 := (hsp.2 T p2 e2 h2).1
        subst he2
        have hg := gT_some h1 hd h2
        cases hT : treeB ⟨(d : Int), T.flat 0⟩ with
        | true =>
          rw [if_pos hT] at hg
          have HG := Lib.hid hg
          have HT := Lib.hid hT
          clear hsp hf h hb h1 hp hz hd hd8 hd8' h2 hg hT
          go_enter Try.func40, Try.ntmps40
          go_wp2_with fail
          (with_reducible refine (HN.out _ (VI.out.below (by (repeat (first | with_reducible exact Below.refl _ _ | with_reducible refine Bs ?_ | with_reducible refine Ba ?_ | with_reducible refine Bd ?_ | with_reducible refine Bn ?_))))).mono ?_); rintro e w1 ⟨rfl, b1⟩; have s1 : w.heap.size + 1 + 1 + 1 ≤ w1.heap.size := sz b1; have B1 := Lib.hid (Bc (B := w.heap.size) (a := w) (by (repeat (first | with_reducible exact Below.refl _ _ | with_reducible refine Bs ?_ | with_reducible refine Ba ?_ | with_reducible refine Bd ?_ | with_reducible refine Bn ?_))) b1); obtain ⟨c1_0, f1_0, c1_1, f1_1, c1_2, f1_2⟩ := k3f (w.heap.size + 1) (.slice none 0 0) (.int .i64 0) (.int .i64 0) b1 (by and_intros <;> go_simp); obtain ⟨c1_3, f1_3, c1_4, f1_4⟩ := k2f (w.heap.size + 2) (.int .i64 0) (.slice none 0 0) b1 (by and_intros <;> go_simp); obtain ⟨l1_0, n1_0, m1_0⟩ := lnm (show w.heap.size + 1 < w1.heap.size by omega); obtain ⟨l1_1, n1_1, m1_1⟩ := lnm (show w.heap.size + 2 < w1.heap.size by omega); clear b1
          go_wp2_with fail
          (with_reducible refine (HNO.out _ (VI.out.below (by (repeat (first | with_reducible exact Below.refl _ _ | with_reducible refine Bs ?_ | with_reducible refine Ba ?_ | with_reducible refine Bd ?_ | with_reducible refine Bn ?_ | with_reducible refine Bt B1.out ?_))))).mono ?_); rintro e w2 ⟨oa, n, c, rfl, b2, hT2⟩; have s2 : w1.heap.size + 1 ≤ w2.heap.size := sz b2; have B2 := Lib.hid (Bc (B := w.heap.size) (a := w) (by (repeat (first | with_reducible exact Below.refl _ _ | with_reducible refine Bs ?_ | with_reducible refine Ba ?_ | with_reducible refine Bd ?_ | with_reducible refine Bn ?_ | with_reducible refine Bt B1.out ?_))) b2); obtain ⟨c2_0, f2_0, c2_1, f2_1, c2_2, f2_2⟩ := k3f (w.heap.size + 1) (.slice none 0 0) (.int .i64 0) (.int .i64 0) b2 (by and_intros <;> go_simp); obtain ⟨c2_3, f2_3, c2_4, f2_4⟩ := k2f (w.heap.size + 2) (.int .i64 0) (.slice none 0 0) b2 (by and_intros <;> go_simp); obtain ⟨l2_0, n2_0, m2_0⟩ := lnm (show w.heap.size + 1 < w2.heap.size by omega); obtain ⟨l2_1, n2_1, m2_1⟩ := lnm (show w.heap.size + 2 < w2.heap.size by omega); clear b2
          obtain ⟨la1, la2, la3⟩ := lnm (show w.heap.size < w2.heap.size by omega)
          have F2 := Lib.hid (NodesF.low (B' := w1.heap.size) (hT2 T rfl) (by simp))
          clear hT2
          go_wp2_with fail
          have HTR := Lib.hid (fun W (hW : NodesF w1.heap.size W (.slice oa n c) (T.flat 0)) => show Calls Try.prog 35 #[.agg #[.int .i64 z, .slice oa n c]] W fun e w' => e = .returned (.bool true) ∧ Below W.heap.size W w' from by
            have := ristree_any (.agg #[.int .i64 z, .slice oa n c]) ⟨(d : Int), T.flat 0⟩ W ⟨_, by rw [HZ.out], hW.now⟩
            rw [HT.out] at this
            exact this)
          (with_reducible refine (HTR.out _ (F2.out.below (by (repeat (first | with_reducible exact Below.refl _ _ | with_reducible refine Bs ?_ | with_reducible refine Ba ?_ | with_reducible refine Bd ?_ | with_reducible refine Bn ?_))))).mono ?_); rintro e w3 ⟨rfl, b3⟩; have s3 : w2.heap.size + 1 + 1 ≤ w3.heap.size := sz b3; have B3 := Lib.hid (Bc (B := w.heap.size) (a := w) (by (repeat (first | with_reducible exact Below.refl _ _ | with_reducible refine Bs ?_ | with_reducible refine Ba ?_ | with_reducible refine Bd ?_ | with_reducible refine Bn ?_ | with_reducible refine Bt B2.out ?_))) b3); obtain ⟨c3_0, f3_0, c3_1, f3_1, c3_2, f3_2⟩ := k3f (w.heap.size + 1) (.slice none 0 0) (.int .i64 0) (.int .i64 0) b3 (by and_intros <;> go_simp); obtain ⟨c3_3, f3_3, c3_4, f3_4⟩ := k2f (w.heap.size + 2) (.int .i64 0) (.slice none 0 0) b3 (by and_intros <;> go_simp); obtain ⟨c3_5, f3_5, c3_6, f3_6, c3_7, f3_7⟩ := k3f (w2.heap.size) (.slice va l.length vc) (.int .i64 (p2 : Int)) (.int .i64 0) b3 (by and_intros <;> go_simp); obtain ⟨c3_8, f3_8, c3_9, f3_9⟩ := k2f (w2.heap.size + 1) (.int .i64 z) (.slice oa n c) b3 (by and_intros <;> go_simp); obtain ⟨l3_0, n3_0, m3_0⟩ := lnm (show w.heap.size + 1 < w3.heap.size by omega); obtain ⟨l3_1, n3_1, m3_1⟩ := lnm (show w.heap.size + 2 < w3.heap.size by omega); obtain ⟨l3_2, n3_2, m3_2⟩ := lnm (show w2.heap.size < w3.heap.size by omega); obtain ⟨l3_3, n3_3, m3_3⟩ := lnm (show w2.heap.size + 1 < w3.heap.size by omega); have F2 := Lib.hid ((F2.out.below (by (repeat (first | with_reducible exact Below.refl _ _ | with_reducible refine Bs ?_ | with_reducible refine Ba ?_ | with_reducible refine Bd ?_ | with_reducible refine Bn ?_)))).below b3); clear b3

          go_wp2_with fail
          refine wp_region_held_drew (S := fun w' => w'.cell? ⟨w2.heap.size, 0, none⟩ = some (.slice va l.length vc) ∧ w'.cell? ⟨w2.heap.size, 1, none⟩ = some (.int .i64 (p2 : Int)) ∧ w'.cell? ⟨w2.heap.size, 2, none⟩ = some (.int .i64 0) ∧ w'.cell? ⟨w2.heap.size + 1, 0, none⟩ = some (.int .i64 z) ∧ w'.cell? ⟨w2.heap.size + 1, 1, none⟩ = some (.slice oa n c)) (by kernel_rfl) ?_ (fun hHeld => ?_); (focus (first | with_reducible exact True.intro | ((try dsimp only); and_intros <;> first | (go_simp; done) | (go_keep; done)))); (refine lexTk 0 (v := ?_) rfl hHeld ?_ (by kernel_rfl) (fun _ _ _ h => h) ?_ ?_; rotate_left 2; (focus rfl); (focus (intro w hSw; (try dsimp only at hSw); first | (go_simp; done) | (go_simp; with_reducible rfl)))); (try simp only [Act.put, List.setIfInBounds_toArray, List.set_cons_zero, List.set_cons_succ]); (refine lexTk 1 (v := ?_) rfl hHeld ?_ (by kernel_rfl) (fun _ _ _ h => h) ?_ ?_; rotate_left 2; (focus rfl); (focus (intro w hSw; (try dsimp only at hSw); first | (go_simp; done) | (go_simp; with_reducible rfl)))); (try simp only [Act.put, List.setIfInBounds_toArray, List.set_cons_zero, List.set_cons_succ]); refine lexHv 2 rfl ?_ (by kernel_rfl); (intro K hK); (go_simp); refine hK.out _ _ ?_ ?_; (focus (first | with_reducible exact True.intro | ((try dsimp only); and_intros <;> first | (go_simp; done) | (go_keep; done)))); (clear hHeld hK K); (intro hHeld); (try simp only [Act.put]); refine lexHv 3 rfl ?_ (by kernel_rfl); (intro K hK); (go_simp); refine hK.out _ _ ?_ ?_; (focus (first | with_reducible exact True.intro | ((try dsimp only); and_intros <;> first | (go_simp; done) | (go_keep; done)))); (clear hHeld hK K); (intro hHeld); (try simp only [Act.put]); refine wpAnyH_done (by kernel_rfl) ?_ _
          go_wp2_with fail
          exact bodyPost_ret (v := .tuple #[.agg #[.slice va l.length vc, .int .i64 (p2 : Int), .int .i64 0], .agg #[.int .i64 z, .slice oa n c]]) (by simp [results, Try.results40, go_sem, *]) rfl (by rw [HG.out]; exact ⟨_, _, rfl, (by (repeat (first | with_reducible exact Below.refl _ _ | with_reducible refine Bs ?_ | with_reducible refine Ba ?_ | with_reducible refine Bd ?_ | with_reducible refine Bn ?_ | with_reducible refine Bt B3.out ?_))), HZ.out, NodesF.low (show NodesF w1.heap.size _ (.slice oa n c) (T.flat 0) from by (repeat (first | with_reducible exact F2.out | with_reducible refine NodesF.drew ?_ | refine NodesF.set (.inl (by first | omega | (simp; omega))) ?_))) (by omega)⟩)
        | false =>
          rw [if_neg (by simp [hT])] at hg
          have HG := Lib.hid hg
          have HT := Lib.hid hT
          clear hsp hf h hb h1 hp hz hd hd8 hd8' h2 hg hT
          go_enter Try.func40, Try.ntmps40
          go_wp2_with fail
          (with_reducible refine (HN.out _ (VI.out.below (by (repeat (first | with_reducible exact Below.refl _ _ | with_reducible refine Bs ?_ | with_reducible refine Ba ?_ | with_reducible refine Bd ?_ | with_reducible refine Bn ?_))))).mono ?_); rintro e w1 ⟨rfl, b1⟩; have s1 : w.heap.size + 1 + 1 + 1 ≤ w1.heap.size := sz b1; have B1 := Lib.hid (Bc (B := w.heap.size) (a := w) (by (repeat (first | with_reducible exact Below.refl _ _ | with_reducible refine Bs ?_ | with_reducible refine Ba ?_ | with_reducible refine Bd ?_ | with_reducible refine Bn ?_))) b1); obtain ⟨c1_0, f1_0, c1_1, f1_1, c1_2, f1_2⟩ := k3f (w.heap.size + 1) (.slice none 0 0) (.int .i64 0) (.int .i64 0) b1 (by and_intros <;> go_simp); obtain ⟨c1_3, f1_3, c1_4, f1_4⟩ := k2f (w.heap.size + 2) (.int .i64 0) (.slice none 0 0) b1 (by and_intros <;> go_simp); obtain ⟨l1_0, n1_0, m1_0⟩ := lnm (show w.heap.size + 1 < w1.heap.size by omega); obtain ⟨l1_1, n1_1, m1_1⟩ := lnm (show w.heap.size + 2 < w1.heap.size by omega); clear b1
          go_wp2_with fail
          (with_reducible refine (HNO.out _ (VI.out.below (by (repeat (first | with_reducible exact Below.refl _ _ | with_reducible refine Bs ?_ | with_reducible refine Ba ?_ | with_reducible refine Bd ?_ | with_reducible refine Bn ?_ | with_reducible refine Bt B1.out ?_))))).mono ?_); rintro e w2 ⟨oa, n, c, rfl, b2, hT2⟩; have s2 : w1.heap.size + 1 ≤ w2.heap.size := sz b2; have B2 := Lib.hid (Bc (B := w.heap.size) (a := w) (by (repeat (first | with_reducible exact Below.refl _ _ | with_reducible refine Bs ?_ | with_reducible refine Ba ?_ | with_reducible refine Bd ?_ | with_reducible refine Bn ?_ | with_reducible refine Bt B1.out ?_))) b2); obtain ⟨c2_0, f2_0, c2_1, f2_1, c2_2, f2_2⟩ := k3f (w.heap.size + 1) (.slice none 0 0) (.int .i64 0) (.int .i64 0) b2 (by and_intros <;> go_simp); obtain ⟨c2_3, f2_3, c2_4, f2_4⟩ := k2f (w.heap.size + 2) (.int .i64 0) (.slice none 0 0) b2 (by and_intros <;> go_simp); obtain ⟨l2_0, n2_0, m2_0⟩ := lnm (show w.heap.size + 1 < w2.heap.size by omega); obtain ⟨l2_1, n2_1, m2_1⟩ := lnm (show w.heap.size + 2 < w2.heap.size by omega); clear b2
          obtain ⟨la1, la2, la3⟩ := lnm (show w.heap.size < w2.heap.size by omega)
          have F2 := Lib.hid (NodesF.low (B' := w1.heap.size) (hT2 T rfl) (by simp))
          clear hT2
          go_wp2_with fail
          have HTR := Lib.hid (fun W (hW : NodesF w1.heap.size W (.slice oa n c) (T.flat 0)) => show Calls Try.prog 35 #[.agg #[.int .i64 z, .slice oa n c]] W fun e w' => e = .returned (.bool false) ∧ Below W.heap.size W w' from by
            have := ristree_any (.agg #[.int .i64 z, .slice oa n c]) ⟨(d : Int), T.flat 0⟩ W ⟨_, by rw [HZ.out], hW.now⟩
            rw [HT.out] at this
            exact this)
          (with_reducible refine (HTR.out _ (F2.out.below (by (repeat (first | with_reducible exact Below.refl _ _ | with_reducible refine Bs ?_ | with_reducible refine Ba ?_ | with_reducible refine Bd ?_ | with_reducible refine Bn ?_))))).mono ?_); rintro e w3 ⟨rfl, b3⟩; have s3 : w2.heap.size + 1 + 1 ≤ w3.heap.size := sz b3; have B3 := Lib.hid (Bc (B := w.heap.size) (a := w) (by (repeat (first | with_reducible exact Below.refl _ _ | with_reducible refine Bs ?_ | with_reducible refine Ba ?_ | with_reducible refine Bd ?_ | with_reducible refine Bn ?_ | with_reducible refine Bt B2.out ?_))) b3); obtain ⟨c3_0, f3_0, c3_1, f3_1, c3_2, f3_2⟩ := k3f (w.heap.size + 1) (.slice none 0 0) (.int .i64 0) (.int .i64 0) b3 (by and_intros <;> go_simp); obtain ⟨c3_3, f3_3, c3_4, f3_4⟩ := k2f (w.heap.size + 2) (.int .i64 0) (.slice none 0 0) b3 (by and_intros <;> go_simp); obtain ⟨c3_5, f3_5, c3_6, f3_6, c3_7, f3_7⟩ := k3f (w2.heap.size) (.slice va l.length vc) (.int .i64 (p2 : Int)) (.int .i64 0) b3 (by and_intros <;> go_simp); obtain ⟨c3_8, f3_8, c3_9, f3_9⟩ := k2f (w2.heap.size + 1) (.int .i64 z) (.slice oa n c) b3 (by and_intros <;> go_simp); obtain ⟨l3_0, n3_0, m3_0⟩ := lnm (show w.heap.size + 1 < w3.heap.size by omega); obtain ⟨l3_1, n3_1, m3_1⟩ := lnm (show w.heap.size + 2 < w3.heap.size by omega); obtain ⟨l3_2, n3_2, m3_2⟩ := lnm (show w2.heap.size < w3.heap.size by omega); obtain ⟨l3_3, n3_3, m3_3⟩ := lnm (show w2.heap.size + 1 < w3.heap.size by omega); have F2 := Lib.hid ((F2.out.below (by (repeat (first | with_reducible exact Below.refl _ _ | with_reducible refine Bs ?_ | with_reducible refine Ba ?_ | with_reducible refine Bd ?_ | with_reducible refine Bn ?_)))).below b3); clear b3

          go_wp2_with fail
          (with_reducible refine (rFail211 va l.length vc (p2 : Int) _).mono ?_); rintro e w4 ⟨rfl, b4⟩; have s4 : w3.heap.size ≤ w4.heap.size := sz b4; have B4 := Lib.hid (Bc (B := w.heap.size) (a := w) (by (repeat (first | with_reducible exact Below.refl _ _ | with_reducible refine Bs ?_ | with_reducible refine Ba ?_ | with_reducible refine Bd ?_ | with_reducible refine Bn ?_ | with_reducible refine Bt B3.out ?_))) b4); obtain ⟨c4_0, f4_0, c4_1, f4_1, c4_2, f4_2⟩ := k3f (w.heap.size + 1) (.slice none 0 0) (.int .i64 0) (.int .i64 0) b4 (by and_intros <;> go_simp); obtain ⟨c4_3, f4_3, c4_4, f4_4⟩ := k2f (w.heap.size + 2) (.int .i64 0) (.slice none 0 0) b4 (by and_intros <;> go_simp); obtain ⟨c4_5, f4_5, c4_6, f4_6, c4_7, f4_7⟩ := k3f (w2.heap.size) (.slice va l.length vc) (.int .i64 (p2 : Int)) (.int .i64 0) b4 (by and_intros <;> go_simp); obtain ⟨l4_0, n4_0, m4_0⟩ := lnm (show w.heap.size + 1 < w4.heap.size by omega); obtain ⟨l4_1, n4_1, m4_1⟩ := lnm (show w.heap.size + 2 < w4.heap.size by omega); obtain ⟨l4_2, n4_2, m4_2⟩ := lnm (show w2.heap.size < w4.heap.size by omega); clear b4
          go_wp2_with fail
          exact bodyPost_ret (v := .tuple #[.agg #[.slice va l.length vc, .int .i64 (p2 : Int), .int .i64 211], .agg #[.int .i64 0, .slice none 0 0]]) (by simp [results, Try.results40, go_sem, *]) rfl (by rw [HG.out]; exact ⟨_, _, rfl, (by (repeat (first | with_reducible exact Below.refl _ _ | with_reducible refine Bs ?_ | with_reducible refine Ba ?_ | with_reducible refine Bd ?_ | with_reducible refine Bn ?_ | with_reducible refine Bt B4.out ?_))), rfl, NodesF.nil _ _⟩)
  · have hd := (hf.1 he).1
    have hz0 : z = 0 := by simp only at hd; omega
    have j1 : (e1 == 0) = false := by rw [beq_eq_false_iff_ne]; exact he
    have j2 : (e1 != 0) = true := by simp [he]
    have HG := Lib.hid (gT_bad h1 he)
    clear hf h hb h1 hp hz hd he
    subst hz0
    go_enter Try.func40, Try.ntmps40
    go_wp2_with fail
    (with_reducible refine (HN.out _ (VI.out.below (by (repeat (first | with_reducible exact Below.refl _ _ | with_reducible refine Bs ?_ | with_reducible refine Ba ?_ | with_reducible refine Bd ?_ | with_reducible refine Bn ?_))))).mono ?_); rintro e w1 ⟨rfl, b1⟩; have s1 : w.heap.size + 1 + 1 + 1 ≤ w1.heap.size := sz b1; have B1 := Lib.hid (Bc (B := w.heap.size) (a := w) (by (repeat (first | with_reducible exact Below.refl _ _ | with_reducible refine Bs ?_ | with_reducible refine Ba ?_ | with_reducible refine Bd ?_ | with_reducible refine Bn ?_))) b1); obtain ⟨c1_0, f1_0, c1_1, f1_1, c1_2, f1_2⟩ := k3f (w.heap.size + 1) (.slice none 0 0) (.int .i64 0) (.int .i64 0) b1 (by and_intros <;> go_simp); obtain ⟨c1_3, f1_3, c1_4, f1_4⟩ := k2f (w.heap.size + 2) (.int .i64 0) (.slice none 0 0) b1 (by and_intros <;> go_simp); obtain ⟨l1_0, n1_0, m1_0⟩ := lnm (show w.heap.size + 1 < w1.heap.size by omega); obtain ⟨l1_1, n1_1, m1_1⟩ := lnm (show w.heap.size + 2 < w1.heap.size by omega); clear b1
    go_wp2_with fail
    exact bodyPost_ret (v := .tuple #[.agg #[.slice va l.length vc, .int .i64 (p : Int), .int .i64 e1], .agg #[.int .i64 0, .slice none 0 0]]) (by simp [results, Try.results40, go_sem, *]) rfl (by rw [HG.out]; exact ⟨_, _, rfl, (by (repeat (first | with_reducible exact Below.refl _ _ | with_reducible refine Bs ?_ | with_reducible refine Ba ?_ | with_reducible refine Bd ?_ | with_reducible refine Bn ?_ | with_reducible refine Bt B1.out ?_))), rfl, NodesF.nil _ _⟩)
end Go.Proofs.Ytdbonlpkmncggaa
