/-
  WoodH: Walk of wood.GetTree.
  ForF: Walks of copseref14.Trees, Much, Is and asked.
  ForD: Walks of forest.Trees, Oldest and Ages.
-/
import Derived.Test.YtdbonlpkmncggaaKWoodE
import Derived.Test.YtdbonlpkmncggaaKTreeA
import Derived.Test.YtdbonlpkmncggaaKForA
import Derived.Test.YtdbonlpkmncggaaJ0b
import Derived.Test.YtdbonlpkmncggaaJ2a
import Derived.Test.YtdbonlpkmncggaaKRefPathS
import Derived.Test.YtdbonlpkmncggaaKForC
namespace Go.Proofs.Ytdbonlpkmncggaa
open Go.RowKit

theorem RdTo.now {w w' : World} {R : Nat} {v : Value} {l : List Int} {a : Nat} {e : Int} (h : RdTo w R v l w' a e) : Rd w' R v l a e := h.1

section
variable {B B' : Nat} {w w' : World} {v : Value} {l : List NodeP}
theorem NodesF.keep (h : NodesF B w v l) (hk : ∀ b, B ≤ b → b < w.heap.size → w'.heap[b]? = w.heap[b]?) (hz : w.heap.size ≤ w'.heap.size) : NodesF B w' v l := fun W hW hz' =>
  h W (fun b h1 h2 => (hW b h1 (Nat.lt_of_lt_of_le h2 hz)).trans (hk b h1 h2)) (Nat.le_trans hz hz')
theorem NodesF.low (h : NodesF B w v l) (hB : B' ≤ B) : NodesF B' w v l := fun W hW hz => h W (fun b h1 h2 => hW b (Nat.le_trans hB h1) h2) hz
theorem NodesF.only {R : Nat} (h : NodesF B w v l) (hR : R < B) (g : w.grownBy w' (some R)) : NodesF B w' v l := h.keep (fun b h1 h2 => g.block b h2 (fun e => by injection e with e; omega)) g.size
theorem NodesF.set {X o : Nat} {u : Value} (hX : X < B ∨ w.heap.size ≤ X) (h : NodesF B w v l) : NodesF B (w.setCell ⟨X, o, none⟩ u) v l := h.keep (fun b h1 h2 => Below.heap_setCell _ _ _ _ (show b ≠ X by omega)) (by simp)
theorem NodesF.new (x : Obj) (h : NodesF B w v l) : NodesF B (w.alloc x) v l := h.below ((Below.refl _ _).alloc (Nat.le_refl _) x)
theorem NodesF.drew (h : NodesF B w v l) : NodesF B w.drew v l := h
theorem NodesF.nil (B : Nat) (w : World) : NodesF B w (.slice none 0 0) [] := fun W _ _ => ⟨none, 0, rfl, by simp, by simp, by simp, fun i n hi => by simp at hi⟩
end

theorem failE_pos (x : Int) (hx : x ≠ 0) : failE 0 x = x := by unfold failE; rw [if_pos rfl, if_neg hx]
theorem failE_neg {e : Int} (he : e ≠ 0) (x : Int) : failE e x = e := if_neg he

set_option maxRecDepth 100000 in
set_option maxHeartbeats 16000000 in
theorem getTree_any {w : World} {R : Nat} {v : Value} {l : List Int} {a : Nat} {e : Int} (h : Rd w R v l a e) (hb : AllB l) (ha : a ≤ l.length) (hl : l.length ≤ 100000) :
    Calls Try.prog 37 #[.pointer (some ⟨R, 0, none⟩)] w fun e' w' => ∃ d nv, e' = .returned (.agg #[.int .i64 d, nv]) ∧ RdTo w R v l w' (gT l a e).2.1 (gT l a e).2.2 ∧ d = (gT l a e).1.dim ∧ NodesF w.heap.size w' nv (gT l a e).1.nodes := by
  have H := Lib.hid h
  have hR := h.lt
  have HB := Lib.hid hb
  obtain ⟨⟨d, p, e1⟩, h1⟩ : ∃ r, rdN' l a e 8 = r := ⟨_, rfl⟩
  have H1 := Lib.hid h1
  have hp : p ≤ l.length := by have := rdN'_le hb ha e 8; rw [h1] at this; exact this
  have HP := Lib.hid hp
  have hf := rdN'_facts l hb a e 8
  rw [h1] at hf
  obtain ⟨z, hz⟩ : ∃ z, z = (d : Int) := ⟨_, rfl⟩
  have HN := Lib.hid (fun W (hW : Rd W R v l a e) => show Calls Try.prog 72 #[.pointer (some ⟨R, 0, none⟩), .int .i64 8] W fun e' w' => e' = .returned (.int .i64 z) ∧ RdTo W R v l w' p e1 from by
    have := readN_all hW hb ha hl 8 (by unfold Ok64; omega)
    rw [h1] at this
    rw [hz]
    exact this)
  by_cases hd : d = 0
  · have hz0 : z = 0 := by omega
    have HG := Lib.hid (show gT l a e = (tree0, p, failE e1 211) from by
      by_cases he : e1 = 0
      · subst he hd
        rw [gT_zero h1, failE_pos _ (by decide)]
      · rw [gT_bad h1 he, failE_neg he])
    clear hf h hb h1 hp hz
    subst hz0
    go_enter Try.func37, Try.ntmps37
    go_wp2_with fail
    (with_reducible refine (HN.out _ (H.out.below (by (repeat (first | with_reducible exact Below.refl _ _ | with_reducible refine Bs ?_ | with_reducible refine Ba ?_ | with_reducible refine Bd ?_ | with_reducible refine Bn ?_))))).mono ?_); rintro e w1 ⟨rfl, r1⟩; have gg1 := r1.2; have T1 := Lib.hid (RdTo.from (w := w) (show Below w.heap.size w _ from by (repeat (first | with_reducible exact Below.refl _ _ | with_reducible refine Bs ?_ | with_reducible refine Ba ?_ | with_reducible refine Bd ?_ | with_reducible refine Bn ?_))) r1); have y1 := gg1.size; have x1 := T1.out.2.size; obtain ⟨c1_0, f1_0, c1_1, f1_1⟩ := g2f (w.heap.size) (.int .i64 0) (.slice none 0 0) gg1 (by and_intros <;> go_simp); obtain ⟨l1_0, n1_0, m1_0⟩ := lnm (show w.heap.size < w1.heap.size by first | omega | (simp at y1; omega)); clear r1 gg1
    go_wp2_with fail
    (with_reducible refine (fail_any T1.out.now 211).mono ?_); rintro e w2 ⟨rfl, r2⟩; have gg2 := r2.2; have T2 := Lib.hid (RdTo.trans (RdTo.belowB H.out T1.out (by (repeat (first | with_reducible exact Below.refl _ _ | with_reducible refine Bs ?_ | with_reducible refine Ba ?_ | with_reducible refine Bd ?_ | with_reducible refine Bn ?_)))) r2); have y2 := gg2.size; have x2 := T2.out.2.size; obtain ⟨c2_0, f2_0, c2_1, f2_1⟩ := g2f (w.heap.size) (.int .i64 0) (.slice none 0 0) gg2 (by and_intros <;> go_simp); obtain ⟨l2_0, n2_0, m2_0⟩ := lnm (show w.heap.size < w2.heap.size by first | omega | (simp at y2; omega)); clear r2 gg2
    go_wp2_with fail
    exact bodyPost_ret (v := .agg #[.int .i64 0, .slice none 0 0]) (by simp [results, Try.results37, go_sem, *]) rfl (by rw [HG.out]; exact ⟨_, _, rfl, RdTo.belowB H.out T2.out (by (repeat (first | with_reducible exact Below.refl _ _ | with_reducible refine Bs ?_ | with_reducible refine Ba ?_ | with_reducible refine Bd ?_ | with_reducible refine Bn ?_))), rfl, NodesF.nil _ _⟩)
  · have he1 : e1 = 0 := by
      by_cases he : e1 = 0
      · exact he
      · exact absurd (hf.1 he).1 hd
    subst he1
    have hd8 := (hf.2 rfl).2.2
    have hd8' : d ≤ 8 := by simp only at hd8; omega
    have hz0 : (z == 0) = false := by rw [beq_eq_false_iff_ne]; omega
    obtain ⟨⟨ro, p2, e2⟩, h2⟩ : ∃ r, rdNodes l d p = r := ⟨_, rfl⟩
    have HNO := Lib.hid (fun W (hW : Rd W R v l p 0) => show Calls Try.prog 74 #[.pointer (some ⟨R, 0, none⟩), .int .i64 z] W fun e' w' => ∃ na nn nc, e' = .returned (.slice na nn nc) ∧ RdTo W R v l w' p2 e2 ∧ (∀ T, ro = some T → NodesF W.heap.size w' (.slice na nn nc) (T.flat 0)) ∧ (ro = none → na = none ∧ nn = 0 ∧ nc = 0) from by
      have := nodes_any hW hb hp hl d ⟨by omega, hd8'⟩
      rw [h2, ← hz] at this
      exact this)
    have hsp := rdB_spec hb d 7 p hp
    have HZ := Lib.hid hz
    cases ro with
    | none =>
      have he2 := (hsp.1 p2 e2 h2).1
      have j1 : (e2 == 0) = false := by rw [beq_eq_false_iff_ne]; exact he2
      have j2 : (e2 != 0) = true := by simp [he2]
      have HG := Lib.hid (gT_none h1 hd h2)
      clear hsp hf h hb h1 hp hz hd hd8 hd8' h2 he2
      go_enter Try.func37, Try.ntmps37
      go_wp2_with fail
      (with_reducible refine (HN.out _ (H.out.below (by (repeat (first | with_reducible exact Below.refl _ _ | with_reducible refine Bs ?_ | with_reducible refine Ba ?_ | with_reducible refine Bd ?_ | with_reducible refine Bn ?_))))).mono ?_); rintro e w1 ⟨rfl, r1⟩; have gg1 := r1.2; have T1 := Lib.hid (RdTo.from (w := w) (show Below w.heap.size w _ from by (repeat (first | with_reducible exact Below.refl _ _ | with_reducible refine Bs ?_ | with_reducible refine Ba ?_ | with_reducible refine Bd ?_ | with_reducible refine Bn ?_))) r1); have y1 := gg1.size; have x1 := T1.out.2.size; obtain ⟨c1_0, f1_0, c1_1, f1_1⟩ := g2f (w.heap.size) (.int .i64 0) (.slice none 0 0) gg1 (by and_intros <;> go_simp); obtain ⟨l1_0, n1_0, m1_0⟩ := lnm (show w.heap.size < w1.heap.size by first | omega | (simp at y1; omega)); clear r1 gg1
      go_wp2_with fail
      (with_reducible refine (HNO.out _ T1.out.now).mono ?_); rintro e w2 ⟨na, nn, nc, rfl, r2, -, hN⟩; have gg2 := r2.2; have T2 := Lib.hid (RdTo.trans (RdTo.belowB H.out T1.out (by (repeat (first | with_reducible exact Below.refl _ _ | with_reducible refine Bs ?_ | with_reducible refine Ba ?_ | with_reducible refine Bd ?_ | with_reducible refine Bn ?_)))) r2); have y2 := gg2.size; have x2 := T2.out.2.size; obtain ⟨c2_0, f2_0, c2_1, f2_1⟩ := g2f (w.heap.size) (.int .i64 0) (.slice none 0 0) gg2 (by and_intros <;> go_simp); obtain ⟨l2_0, n2_0, m2_0⟩ := lnm (show w.heap.size < w2.heap.size by first | omega | (simp at y2; omega)); clear r2 gg2
      obtain ⟨rfl, rfl, rfl⟩ := hN (by simp)
      clear hN
      go_wp2_with fail
      refine (err_any (T2.out.now.below (by (repeat (first | with_reducible exact Below.refl _ _ | with_reducible refine Bs ?_ | with_reducible refine Ba ?_ | with_reducible refine Bd ?_ | with_reducible refine Bn ?_))))).mono ?_
      rintro e3 w3 ⟨rfl, rfl⟩
      go_wp2_with fail
      refine (err_any (T2.out.now.below (by (repeat (first | with_reducible exact Below.refl _ _ | with_reducible refine Bs ?_ | with_reducible refine Ba ?_ | with_reducible refine Bd ?_ | with_reducible refine Bn ?_))))).mono ?_
      rintro e3 w3 ⟨rfl, rfl⟩
      go_wp2_with fail
      exact bodyPost_ret (v := .agg #[.int .i64 0, .slice none 0 0]) (by simp [results, Try.results37, go_sem, *]) rfl (by rw [HG.out]; exact ⟨_, _, rfl, RdTo.belowB H.out T2.out (by (repeat (first | with_reducible exact Below.refl _ _ | with_reducible refine Bs ?_ | with_reducible refine Ba ?_ | with_reducible refine Bd ?_ | with_reducible refine Bn ?_))), rfl, NodesF.nil _ _⟩)
    | some T =>
      have he2 := (hsp.2 T p2 e2 h2).1
      subst he2
      have hg := gT_some h1 hd h2
      by_cases hT : treeB ⟨(d : Int), T.flat 0⟩ = true
      · rw [if_pos hT] at hg
        have HG := Lib.hid hg
        have HT := Lib.hid hT
        clear hsp hf h hb h1 hp hz hd hd8 hd8' h2 hg hT
        go_enter Try.func37, Try.ntmps37
        go_wp2_with fail
        (with_reducible refine (HN.out _ (H.out.below (by (repeat (first | with_reducible exact Below.refl _ _ | with_reducible refine Bs ?_ | with_reducible refine Ba ?_ | with_reducible refine Bd ?_ | with_reducible refine Bn ?_))))).mono ?_); rintro e w1 ⟨rfl, r1⟩; have gg1 := r1.2; have T1 := Lib.hid (RdTo.from (w := w) (show Below w.heap.size w _ from by (repeat (first | with_reducible exact Below.refl _ _ | with_reducible refine Bs ?_ | with_reducible refine Ba ?_ | with_reducible refine Bd ?_ | with_reducible refine Bn ?_))) r1); have y1 := gg1.size; have x1 := T1.out.2.size; obtain ⟨c1_0, f1_0, c1_1, f1_1⟩ := g2f (w.heap.size) (.int .i64 0) (.slice none 0 0) gg1 (by and_intros <;> go_simp); obtain ⟨l1_0, n1_0, m1_0⟩ := lnm (show w.heap.size < w1.heap.size by first | omega | (simp at y1; omega)); clear r1 gg1
        go_wp2_with fail
        (with_reducible refine (HNO.out _ T1.out.now).mono ?_); rintro e w2 ⟨na, nn, nc, rfl, r2, hT2, -⟩; have gg2 := r2.2; have T2 := Lib.hid (RdTo.trans (RdTo.belowB H.out T1.out (by (repeat (first | with_reducible exact Below.refl _ _ | with_reducible refine Bs ?_ | with_reducible refine Ba ?_ | with_reducible refine Bd ?_ | with_reducible refine Bn ?_)))) r2); have y2 := gg2.size; have x2 := T2.out.2.size; obtain ⟨c2_0, f2_0, c2_1, f2_1⟩ := g2f (w.heap.size) (.int .i64 0) (.slice none 0 0) gg2 (by and_intros <;> go_simp); obtain ⟨l2_0, n2_0, m2_0⟩ := lnm (show w.heap.size < w2.heap.size by first | omega | (simp at y2; omega)); clear r2 gg2
        have F2 := Lib.hid (hT2 T rfl)
        clear hT2
        go_wp2_with fail
        refine (err_any (T2.out.now.below (by (repeat (first | with_reducible exact Below.refl _ _ | with_reducible refine Bs ?_ | with_reducible refine Ba ?_ | with_reducible refine Bd ?_ | with_reducible refine Bn ?_))))).mono ?_
        rintro e3 w3 ⟨rfl, rfl⟩
        go_wp2_with fail
        have HTR := Lib.hid (fun W (hW : NodesF w1.heap.size W (.slice na nn nc) (T.flat 0)) => show Calls Try.prog 65 #[.agg #[.int .i64 z, .slice na nn nc]] W fun e w' => e = .returned (.bool true) ∧ Below W.heap.size W w' from by
          have := tis_any (.agg #[.int .i64 z, .slice na nn nc]) ⟨(d : Int), T.flat 0⟩ W ⟨_, by rw [HZ.out], hW.now⟩
          rw [HT.out] at this
          exact this)
        (with_reducible refine (HTR.out _ (F2.out.below (by (repeat (first | with_reducible exact Below.refl _ _ | with_reducible refine Bs ?_ | with_reducible refine Ba ?_ | with_reducible refine Bd ?_ | with_reducible refine Bn ?_))))).mono ?_)
        rintro e3 w3 ⟨rfl, b3⟩
        have y3 := b3.size
        simp only [World.size_alloc] at y3
        (obtain ⟨c3_0, f3_0, c3_1, f3_1⟩ := k2f (w.heap.size) (.int .i64 0) (.slice none 0 0) b3 (by and_intros <;> go_simp)); (obtain ⟨c3_2, c3_3⟩ := k2 (w2.heap.size) (.int .i64 z) (.slice na nn nc) b3 (by and_intros <;> go_simp)); (obtain ⟨l3_0, n3_0, m3_0⟩ := lnm (show w.heap.size < w3.heap.size by omega)); (obtain ⟨l3_1, n3_1, m3_1⟩ := lnm (show w2.heap.size < w3.heap.size by omega))
        have T3 := Lib.hid (RdTo.belowB H.out T2.out (Bc (B := w.heap.size) (a := w2) (by (repeat (first | with_reducible exact Below.refl _ _ | with_reducible refine Bs ?_ | with_reducible refine Ba ?_ | with_reducible refine Bd ?_ | with_reducible refine Bn ?_))) b3))
        have F3 := Lib.hid ((F2.out.below (by (repeat (first | with_reducible exact Below.refl _ _ | with_reducible refine Bs ?_ | with_reducible refine Ba ?_ | with_reducible refine Bd ?_ | with_reducible refine Bn ?_)))).below b3)
        clear b3
        go_wp2_with fail
        refine (err_any T3.out.now).mono ?_
        rintro e4 w4 ⟨rfl, rfl⟩
        go_wp2_with fail
        exact bodyPost_ret (v := .agg #[.int .i64 z, .slice na nn nc]) (by simp [results, Try.results37, go_sem, *]) rfl (by rw [HG.out]; exact ⟨_, _, rfl, RdTo.belowB H.out T3.out (by (repeat (first | with_reducible exact Below.refl _ _ | with_reducible refine Bs ?_ | with_reducible refine Ba ?_ | with_reducible refine Bd ?_ | with_reducible refine Bn ?_))), HZ.out, NodesF.low (show NodesF w1.heap.size _ (.slice na nn nc) (T.flat 0) from by (repeat (first | with_reducible exact F3.out | with_reducible refine NodesF.drew ?_ | refine NodesF.set (.inl (by omega)) ?_))) (by first | omega | (simp at *; omega))⟩)
      · rw [if_neg hT] at hg
        have HG := Lib.hid hg
        have HT := Lib.hid (Bool.eq_false_iff.2 hT)
        clear hsp hf h hb h1 hp hz hd hd8 hd8' h2 hg hT
        go_enter Try.func37, Try.ntmps37
        go_wp2_with fail
        (with_reducible refine (HN.out _ (H.out.below (by (repeat (first | with_reducible exact Below.refl _ _ | with_reducible refine Bs ?_ | with_reducible refine Ba ?_ | with_reducible refine Bd ?_ | with_reducible refine Bn ?_))))).mono ?_); rintro e w1 ⟨rfl, r1⟩; have gg1 := r1.2; have T1 := Lib.hid (RdTo.from (w := w) (show Below w.heap.size w _ from by (repeat (first | with_reducible exact Below.refl _ _ | with_reducible refine Bs ?_ | with_reducible refine Ba ?_ | with_reducible refine Bd ?_ | with_reducible refine Bn ?_))) r1); have y1 := gg1.size; have x1 := T1.out.2.size; obtain ⟨c1_0, f1_0, c1_1, f1_1⟩ := g2f (w.heap.size) (.int .i64 0) (.slice none 0 0) gg1 (by and_intros <;> go_simp); obtain ⟨l1_0, n1_0, m1_0⟩ := lnm (show w.heap.size < w1.heap.size by first | omega | (simp at y1; omega)); clear r1 gg1
        go_wp2_with fail
        (with_reducible refine (HNO.out _ T1.out.now).mono ?_); rintro e w2 ⟨na, nn, nc, rfl, r2, hT2, -⟩; have gg2 := r2.2; have T2 := Lib.hid (RdTo.trans (RdTo.belowB H.out T1.out (by (repeat (first | with_reducible exact Below.refl _ _ | with_reducible refine Bs ?_ | with_reducible refine Ba ?_ | with_reducible refine Bd ?_ | with_reducible refine Bn ?_)))) r2); have y2 := gg2.size; have x2 := T2.out.2.size; obtain ⟨c2_0, f2_0, c2_1, f2_1⟩ := g2f (w.heap.size) (.int .i64 0) (.slice none 0 0) gg2 (by and_intros <;> go_simp); obtain ⟨l2_0, n2_0, m2_0⟩ := lnm (show w.heap.size < w2.heap.size by first | omega | (simp at y2; omega)); clear r2 gg2
        have F2 := Lib.hid (hT2 T rfl)
        clear hT2
        go_wp2_with fail
        refine (err_any (T2.out.now.below (by (repeat (first | with_reducible exact Below.refl _ _ | with_reducible refine Bs ?_ | with_reducible refine Ba ?_ | with_reducible refine Bd ?_ | with_reducible refine Bn ?_))))).mono ?_
        rintro e3 w3 ⟨rfl, rfl⟩
        go_wp2_with fail
        have HTR := Lib.hid (fun W (hW : NodesF w1.heap.size W (.slice na nn nc) (T.flat 0)) => show Calls Try.prog 65 #[.agg #[.int .i64 z, .slice na nn nc]] W fun e w' => e = .returned (.bool false) ∧ Below W.heap.size W w' from by
          have := tis_any (.agg #[.int .i64 z, .slice na nn nc]) ⟨(d : Int), T.flat 0⟩ W ⟨_, by rw [HZ.out], hW.now⟩
          rw [HT.out] at this
          exact this)
        (with_reducible refine (HTR.out _ (F2.out.below (by (repeat (first | with_reducible exact Below.refl _ _ | with_reducible refine Bs ?_ | with_reducible refine Ba ?_ | with_reducible refine Bd ?_ | with_reducible refine Bn ?_))))).mono ?_)
        rintro e3 w3 ⟨rfl, b3⟩
        have y3 := b3.size
        simp only [World.size_alloc] at y3
        (obtain ⟨c3_0, f3_0, c3_1, f3_1⟩ := k2f (w.heap.size) (.int .i64 0) (.slice none 0 0) b3 (by and_intros <;> go_simp)); (obtain ⟨c3_2, c3_3⟩ := k2 (w2.heap.size) (.int .i64 z) (.slice na nn nc) b3 (by and_intros <;> go_simp)); (obtain ⟨l3_0, n3_0, m3_0⟩ := lnm (show w.heap.size < w3.heap.size by omega)); (obtain ⟨l3_1, n3_1, m3_1⟩ := lnm (show w2.heap.size < w3.heap.size by omega))
        have T3 := Lib.hid (RdTo.belowB H.out T2.out (Bc (B := w.heap.size) (a := w2) (by (repeat (first | with_reducible exact Below.refl _ _ | with_reducible refine Bs ?_ | with_reducible refine Ba ?_ | with_reducible refine Bd ?_ | with_reducible refine Bn ?_))) b3))
        have F3 := Lib.hid ((F2.out.below (by (repeat (first | with_reducible exact Below.refl _ _ | with_reducible refine Bs ?_ | with_reducible refine Ba ?_ | with_reducible refine Bd ?_ | with_reducible refine Bn ?_)))).below b3)
        clear b3
        go_wp2_with fail
        (with_reducible refine (fail_any T3.out.now 211).mono ?_); rintro e w4 ⟨rfl, r4⟩; have gg4 := r4.2; have T4 := Lib.hid (RdTo.trans (RdTo.belowB H.out T3.out (by (repeat (first | with_reducible exact Below.refl _ _ | with_reducible refine Bs ?_ | with_reducible refine Ba ?_ | with_reducible refine Bd ?_ | with_reducible refine Bn ?_)))) r4); have y4 := gg4.size; have x4 := T4.out.2.size; obtain ⟨c4_0, f4_0, c4_1, f4_1⟩ := g2f (w.heap.size) (.int .i64 0) (.slice none 0 0) gg4 (by and_intros <;> go_simp); obtain ⟨l4_0, n4_0, m4_0⟩ := lnm (show w.heap.size < w4.heap.size by first | omega | (simp at y4; omega)); clear r4 gg4
        go_wp2_with fail
        refine (err_any (T4.out.now.below (by (repeat (first | with_reducible exact Below.refl _ _ | with_reducible refine Bs ?_ | with_reducible refine Ba ?_ | with_reducible refine Bd ?_ | with_reducible refine Bn ?_))))).mono ?_
        rintro e5 w5 ⟨rfl, rfl⟩
        go_wp2_with fail
        exact bodyPost_ret (v := .agg #[.int .i64 0, .slice none 0 0]) (by simp [results, Try.results37, go_sem, *]) rfl (by rw [HG.out]; exact ⟨_, _, rfl, RdTo.belowB H.out T4.out (by (repeat (first | with_reducible exact Below.refl _ _ | with_reducible refine Bs ?_ | with_reducible refine Ba ?_ | with_reducible refine Bd ?_ | with_reducible refine Bn ?_))), rfl, NodesF.nil _ _⟩)
end Go.Proofs.Ytdbonlpkmncggaa

namespace Go.Proofs.Ytdbonlpkmncggaa
open Go.RowKit

def toF (p : GrV) : TreeP × Value := (p.1.1, p.2)

set_option maxRecDepth 100000 in
set_option maxHeartbeats 4000000 in
theorem rtrees14_any (a : Option Addr) (n c : Nat) (ps : List GrV) (w : World) (hl : ps.length = n) (hn : n ≤ 1000000) (hsh : ∀ p ∈ ps, ∃ na m nc, p.2 = .slice na m nc)
    (hc : ∀ (i : Nat) (p : GrV), ps[i]? = some p → ∃ b o, a = some ⟨b, o, none⟩ ∧ b < w.heap.size ∧ w.cell? ⟨b, o + i * 3, none⟩ = some (.int .i64 p.1.1.dim) ∧ w.cell? ⟨b, o + i * 3 + 1, none⟩ = some p.2) :
    Calls Try.prog 16 #[.slice a n c] w fun e w' => ∃ v', e = .returned v' ∧ w'.ownsRow w.heap.size 38 2 v' n ((ps.map toF).flatMap rowF) ∧ Below w.heap.size w w' := by
  have HL := Lib.hid hl
  have HS := Lib.hid hsh
  have HC := Lib.hid hc
  have hnb : (n : Int) ≤ 1000000 := by omega
  clear hl hsh hc
  go_enter Try.func16, Try.ntmps16
  go_wp2_with fail
  go_loopw [3, 4] (fun o idx wr => ∃ k : Nat, idx = .int .i64 k ∧ k ≤ n ∧ wr.ownsRow w.heap.size 38 2 o k (((ps.take k).map toF).flatMap rowF) ∧ Below w.heap.size w wr) (fun _ idx _ => n - (intOf idx).toNat)
  case atStart => exact ⟨0, rfl, by omega, World.ownsRow_nil _ _ _ _, Below.refl _ _⟩
  case round =>
    obtain ⟨k, rfl, hk, hown, hbr⟩ := hrel
    have HO := Lib.hid hown
    have BR := Lib.hid hbr
    have hz := hbr.size
    by_cases hlt : k < n
    · obtain ⟨p, hp⟩ := getElem?_ex (l := ps) (k := k) (by rw [HL.out]; exact hlt)
      obtain ⟨b, o, rfl, hb, c0, c1⟩ := HC.out k p hp
      have e0 := (hbr.cell (p := ⟨b, o + k * 3, none⟩) hb).trans c0
      have e1 := (hbr.cell (p := ⟨b, o + k * 3 + 1, none⟩) hb).trans c1
      obtain ⟨na, m, nc, hpv⟩ := HS.out p (List.mem_of_getElem? hp)
      have HTK := Lib.hid (show ((ps.take (k + 1)).map toF).flatMap rowF = ((ps.take k).map toF).flatMap rowF ++ [.int .i64 p.1.1.dim, .slice na m nc] by
        rw [List.take_add_one, hp, List.map_append, List.flatMap_append, ← hpv]; rfl)
      rw [hpv] at e1
      have i1 : (0 : Int) ≤ (k : Int) := by omega
      have i2 : (k : Int) < (n : Int) := by omega
      generalize p.1.1.dim = d at *
      obtain ⟨XS, hXS⟩ : ∃ XS, ((ps.take k).map toF).flatMap rowF = XS := ⟨_, rfl⟩
      rw [hXS] at HO HTK
      clear c0 c1 hp hown hbr hpv hXS
      go_wp2_with (at_builtin; go_must (refine app1 rfl _ _ 31 rfl Try.underlying31 eiTree w.heap.size (by rfl) HO.out (by rfl) rfl (by simp [Value.oneCell']) (by omega) (by omega) ?_))
      intro v5 w5 hown5 hb5 _
      have OWN5 := Lib.hid hown5
      have B5 := Lib.hid (show Below w.heap.size w w5 from below_tr BR.out hb5)
      clear hown5 hb5
      go_wp2_with fail
      go_roundw
      case rel => exact ⟨k + 1, by go_num, by omega, by rw [HTK.out]; exact OWN5.out, B5.out⟩
      case measure => simp [intOf] <;> omega
    · obtain rfl : k = n := by omega
      rw [List.take_of_length_le (by rw [HL.out]; exact Nat.le_refl _)] at hown
      have HOW := Lib.hid hown
      obtain ⟨oa, om, oc, rfl⟩ := own_shape hown
      clear hown
      go_wp2_with fail
      go_ret
      exact ⟨_, rfl, HOW.out, BR.out⟩

theorem trees14_in (v : Value) (l : List (TreeP × Int)) (w : World) (h : GrownsR w v l) (hn : l.length ≤ 1000) :
    Calls Try.prog 16 #[v] w fun e w' => ∃ v', e = .returned v' ∧ TreesR w' v' (l.map (·.1)) ∧ Below w.heap.size w w' := by
  obtain ⟨ps, hp1, hp2, ad, cc, rfl, hp3⟩ := growns_vals h
  have hl : ps.length = l.length := by rw [← hp1, List.length_map]
  refine (rtrees14_any ad l.length cc ps w hl (by omega) (fun p hp => ?_) (fun i p hp => ?_)).mono ?_
  · obtain ⟨_, a, c, e, _⟩ := hp2 p hp
    exact ⟨a, _, c, e⟩
  · obtain ⟨b, o, g1, g2, g3, g4, _⟩ := hp3 i p hp
    exact ⟨b, o, g1, g2, g3, g4⟩
  · rintro e w' ⟨v', rfl, ho, hb⟩
    refine ⟨v', rfl, ?_, hb⟩
    have := own_trees ho (by rw [List.length_map, hl]) (by omega) (fun q hq => by
      obtain ⟨p, hp, rfl⟩ := List.mem_map.1 hq
      exact ((hp2 p hp).2.below hb))
    rw [List.map_map] at this
    rw [← hp1, List.map_map]
    exact this

def muchG (l : List (TreeP × Int)) : Bool := decide (30 < l.length) || muchT (l.map (·.1))

theorem argGrowns_vals {w : World} {v : Value} {l : List (TreeP × Int)} (h : ArgGrowns w v l) : ∃ ps : List GrV, ps.map (·.1) = l ∧ (∀ p ∈ ps, ArgNodes w p.2 p.1.1.nodes) ∧ ∃ a c, v = .slice a l.length c ∧
    ∀ (i : Nat) (p : GrV), ps[i]? = some p → ∃ b o, a = some ⟨b, o, none⟩ ∧ b < w.heap.size ∧ w.cell? ⟨b, o + i * 3, none⟩ = some (.int .i64 p.1.1.dim) ∧ w.cell? ⟨b, o + i * 3 + 1, none⟩ = some p.2 := by
  obtain ⟨a, c, e, _, _, h⟩ := h
  obtain ⟨V, hV1, hV2⟩ := list_of_ex (m := l.length) (P := fun i (nv : Value) => ∀ t, l[i]? = some t → ∃ b o, a = some ⟨b, o, none⟩ ∧ b < w.heap.size ∧ w.cell? ⟨b, o + i * 3, none⟩ = some (.int .i64 t.1.dim) ∧ w.cell? ⟨b, o + i * 3 + 1, none⟩ = some nv ∧ ArgNodes w nv t.1.nodes) (by
    intro i hi
    obtain ⟨t, ht⟩ := getElem?_ex (l := l) (k := i) hi
    obtain ⟨b, o, nv, g1, g2, g3, g4, _, _, g7⟩ := h i t ht
    refine ⟨nv, fun t' ht' => ?_⟩
    rw [ht] at ht'
    injection ht' with ht'
    subst ht'
    exact ⟨b, o, g1, g2, g3, g4, g7⟩)
  refine ⟨l.zip V, List.map_fst_zip (by rw [hV1]; exact Nat.le_refl _), fun p hp => ?_, a, c, e, fun i p hp => ?_⟩
  · obtain ⟨i, hi⟩ := List.getElem?_of_mem hp
    rw [List.getElem?_zip_eq_some] at hi
    obtain ⟨_, _, _, _, _, _, g7⟩ := hV2 i p.2 hi.2 p.1 hi.1
    exact g7
  · rw [List.getElem?_zip_eq_some] at hp
    obtain ⟨b, o, g1, g2, g3, g4, _⟩ := hV2 i p.2 hp.2 p.1 hp.1
    exact ⟨b, o, g1, g2, g3, g4⟩

theorem own_argTrees {w : World} {base e n : Nat} {v : Value} {ps : List (TreeP × Value)} (h : w.ownsRow base e 2 v n (ps.flatMap rowF)) (hn : n = ps.length)
    (hp : ∀ p ∈ ps, ArgNodes w p.2 p.1.nodes) : ArgTrees w v (ps.map (·.1)) := by
  subst hn
  rcases h.2 with ⟨rfl, h0⟩ | ⟨g, cap, cur, rfl, hb, hg, h1, h2, h3, h4⟩
  · have : ps = [] := List.eq_nil_of_length_eq_zero h0
    subst this
    exact ⟨none, 0, rfl, by simp, by omega, fun i x hi => by simp at hi⟩
  · refine ⟨some ⟨g, 0, none⟩, cap, by rw [List.length_map], by rw [List.length_map]; exact h1, by simpa [maxLen] using h2, fun i t hi => ?_⟩
    rw [List.getElem?_map] at hi
    cases hpi : ps[i]? with
    | none => rw [hpi] at hi; cases hi
    | some p =>
      rw [hpi] at hi
      obtain rfl : p.1 = t := by simpa using hi
      have hlt : i < ps.length := (List.getElem?_eq_some_iff.1 hpi).1
      obtain ⟨r0, r1⟩ := rowF_at ps i p hpi
      have c0 := (h.cellAt (i * 2) (by omega)).trans r0
      have c1 := (h.cellAt (i * 2 + 1) (by omega)).trans r1
      exact ⟨g, 0, p.2, rfl, (Array.getElem?_eq_some_iff.1 hg).1, by rw [Nat.zero_add]; exact c0, by rw [Nat.zero_add]; exact c1, hp p (List.mem_of_getElem? hpi)⟩

theorem trees14_arg (v : Value) (l : List (TreeP × Int)) (w : World) (h : ArgGrowns w v l) (hn : l.length ≤ 1000) :
    Calls Try.prog 16 #[v] w fun e w' => ∃ v', e = .returned v' ∧ ArgTrees w' v' (l.map (·.1)) ∧ Below w.heap.size w w' := by
  obtain ⟨ps, hp1, hp2, ad, cc, rfl, hp3⟩ := argGrowns_vals h
  have hl : ps.length = l.length := by rw [← hp1, List.length_map]
  refine (rtrees14_any ad l.length cc ps w hl (by omega) (fun p hp => ?_) hp3).mono ?_
  · obtain ⟨a, c, e, _⟩ := hp2 p hp
    exact ⟨a, _, c, e⟩
  · rintro e w' ⟨v', rfl, ho, hb⟩
    refine ⟨v', rfl, ?_, hb⟩
    have := own_argTrees ho (by rw [List.length_map, hl]) (fun q hq => by
      obtain ⟨p, hp, rfl⟩ := List.mem_map.1 hq
      exact ((hp2 p hp).below hb))
    rw [List.map_map] at this
    rw [← hp1, List.map_map]
    exact this

set_option maxHeartbeats 1000000 in
theorem rmuch14_any (v : Value) (l : List (TreeP × Int)) (w : World) (h : ArgGrowns w v l) :
    Calls Try.prog 9 #[v] w fun e w' => e = .returned (.bool (muchG l)) ∧ Below w.heap.size w w' := by
  have HA := Lib.hid h
  unfold muchG
  by_cases h2 : 30 < l.length
  · rw [decide_eq_true h2, Bool.true_or]
    obtain ⟨ad, cc, rfl, hc1, hc2, _⟩ := h
    obtain ⟨n, hn⟩ : ∃ n, l.length = n := ⟨_, rfl⟩
    rw [hn] at h2 hc1 ⊢
    clear hn
    have hnb : (n : Int) ≤ 9223372036854775807 := by omega
    have h3 : (30 : Int) < n := by omega
    go_enter Try.func9, Try.ntmps9
    go_wp2_with fail
    go_ret
    exact ⟨rfl, by (repeat (first | with_reducible exact Below.refl _ _ | with_reducible refine Bs ?_ | with_reducible refine Ba ?_ | with_reducible refine Bd ?_ | with_reducible refine Bn ?_))⟩
  · rw [decide_eq_false h2, Bool.false_or]
    have HT := Lib.hid (fun W (hW : ArgGrowns W v l) => trees14_arg v l W hW (by omega))
    have HM := Lib.hid (fun v' W (hW : ArgTrees W v' (l.map (·.1))) => rmuch12_any v' _ W hW)
    obtain ⟨ad, cc, rfl, hc1, hc2, _⟩ := h
    generalize l.map (·.1) = L at *
    generalize muchT L = M at *
    obtain ⟨n, hn⟩ : ∃ n, l.length = n := ⟨_, rfl⟩
    rw [hn] at h2 hc1 HA HT ⊢
    clear hn
    have h3 : (n : Int) ≤ 30 := by omega
    have j3 : decide ((30 : Int) < n) = false := decide_eq_false (by omega)
    go_enter Try.func9, Try.ntmps9
    go_wp2_with fail
    (with_reducible refine (HT.out _ (HA.out.below (by (repeat (first | with_reducible exact Below.refl _ _ | with_reducible refine Bs ?_ | with_reducible refine Ba ?_ | with_reducible refine Bd ?_ | with_reducible refine Bn ?_))))).mono ?_)
    rintro e w1 ⟨v1, rfl, t1, b1⟩
    have T1 := Lib.hid t1
    have B1 := Lib.hid b1
    obtain ⟨ta, tc, rfl, _⟩ := t1
    clear b1
    go_wp2_with fail
    (with_reducible refine (HM.out _ _ T1.out).mono ?_)
    rintro e w2 ⟨rfl, b2⟩
    have B2 := Lib.hid (show Below w.heap.size w w2 from B1.out.trans (b2.mono B1.out.size))
    clear b2
    go_wp2_with fail
    go_ret
    exact ⟨by first | rfl | (simp [j3]; done), B2.out⟩
end Go.Proofs.Ytdbonlpkmncggaa

namespace Go.Proofs.Ytdbonlpkmncggaa
open Go.RowKit

end Go.Proofs.Ytdbonlpkmncggaa
