/-
  WoodH: Walk of wood.GetTree.
-/
import Derived.Test.YtgobbecpnjelmaaGreatKWoodE
import Derived.Test.YtgobbecpnjelmaaGreatKTreeA
namespace Go.Proofs.YtgobbecpnjelmaaGreat
open Go.RowKit

theorem RdTo.now {w w' : World} {R : Nat} {v : Value} {l : List Int} {a : Nat} {e : Int} (h : RdTo w R v l w' a e) : Rd w' R v l a e := h.1

section
variable {B B' : Nat} {w w' : World} {v : Value} {l : List NodeP}

theorem NodesF.keep (h : NodesF B w v l) (hk : ∀ b, B ≤ b → b < w.heap.size → w'.heap[b]? = w.heap[b]?) (hz : w.heap.size ≤ w'.heap.size) : NodesF B w' v l := fun W hW hz' =>
 h W (fun b h1 h2 => (hW b h1 (Nat.lt_of_lt_of_le h2 hz)).trans (hk b h1 h2)) (Nat.le_trans hz hz')

theorem NodesF.low (h : NodesF B w v l) (hB : B' ≤ B) : NodesF B' w v l := fun W hW hz => h W (fun b h1 h2 => hW b (Nat.le_trans hB h1) h2) hz

theorem NodesF.only {R : Nat} (h : NodesF B w v l) (hR : R < B) (g : w.grownBy w' (some R)) : NodesF B w' v l := h.keep (fun b h1 h2 => g.block b h2 (fun e => by injection e with e; omega)) g.size

theorem NodesF.set {X o : Nat} {u : Value} (hX : X < B ∨ w.heap.size ≤ X) (h : NodesF B w v l) : NodesF B (w.setCell ⟨X, o, none⟩ u) v l := h.keep (fun b h1 h2 => Below.heap_setCell _ _ _ _ (show b ≠ X by omega)) (by simp)

theorem NodesF.new (x : Obj) (h : NodesF B w v l) : NodesF B (w.alloc x) v l := h.below ((Below.refl _ _).alloc (Nat.le_refl _) x)

theorem NodesF.drew (h : NodesF B w v l) : NodesF B w.drew v l := h

theorem NodesF.nil (B : Nat) (w : World) : NodesF B w (.slice none 0 0) [] := fun W _ _ => ⟨none, 0, rfl, by simp, by simp, by simp, fun i n hi => by simp at hi⟩
end

theorem failE_pos (x : Int) (hx : x ≠ 0) : failE 0 x = x := by unfold failE; rw [if_pos rfl, if_neg hx]

theorem failE_neg {e : Int} (he : e ≠ 0) (x : Int) : failE e x = e := if_neg he

set_option maxRecDepth 100000 in
set_option maxHeartbeats 16000000 in
theorem getTree_any {w : World} {R : Nat} {v : Value} {l : List Int} {a : Nat} {e : Int} (h : Rd w R v l a e) (hb : AllB l) (ha : a ≤ l.length) (hl : l.length ≤ 100000) :
  Calls Tryz.prog 108 #[.pointer (some ⟨R, 0, none⟩)] w fun e' w' => ∃ d nv, e' = .returned (.agg #[.int .i64 d, nv]) ∧ RdTo w R v l w' (gT l a e).2.1 (gT l a e).2.2 ∧ d = (gT l a e).1.dim ∧ NodesF w.heap.size w' nv (gT l a e).1.nodes := by
 have H := hH h
 have hR := h.lt
 have HB := hH hb
 obtain ⟨⟨d, p, e1⟩, h1⟩ : ∃ r, rdN' l a e 8 = r := ⟨_, rfl⟩
 have H1 := hH h1
 have hp : p ≤ l.length := by have := rdN'_le hb ha e 8; rw [h1] at this; exact this
 have HP := hH hp
 have hf := rdN'_facts l hb a e 8
 rw [h1] at hf
 obtain ⟨z, hz⟩ : ∃ z, z = (d : Int) := ⟨_, rfl⟩
 have HN := hH (fun W (hW : Rd W R v l a e) => show Calls Tryz.prog 61 #[.pointer (some ⟨R, 0, none⟩), .int .i64 8] W fun e' w' => e' = .returned (.int .i64 z) ∧ RdTo W R v l w' p e1 from by
  have := readN_all hW hb ha hl 8 (by unfold Ok64; omega)
  rw [h1] at this
  rw [hz]
  exact this)
 by_cases hd : d = 0
 ·have hz0 : z = 0 := by omega
  have HG := hH (show gT l a e = (tree0, p, failE e1 211) from by
   by_cases he : e1 = 0
   ·subst he hd
    rw [gT_zero h1, failE_pos _ (by decide)]
   ·rw [gT_bad h1 he, failE_neg he])
  clear hf h hb h1 hp hz
  subst hz0
  go_enter Tryz.func108, Tryz.ntmps108
  go_wp2_with fail
  (with_reducible refine (HN.out _ (H.out.below bw)).mono ?_); rintro e w1 ⟨rfl, r1⟩; have gg1 := r1.2; have T1 := hH (RdTo.from (w := w) (show Below w.heap.size w _ from bw) r1); have y1 := gg1.size; have x1 := T1.out.2.size; obtain ⟨c1_0, f1_0, c1_1, f1_1⟩ := g2f (w.heap.size) (.int .i64 0) (.slice none 0 0) gg1 aJ; obtain ⟨l1_0, n1_0, m1_0⟩ := lnm (show w.heap.size < w1.heap.size by first | omega | (simp at y1; omega)); clear r1 gg1
  go_wp2_with fail
  (with_reducible refine (fail_any T1.out.now 211).mono ?_); rintro e w2 ⟨rfl, r2⟩; have gg2 := r2.2; have T2 := hH (RdTo.trans (RdTo.belowB H.out T1.out bw) r2); have y2 := gg2.size; have x2 := T2.out.2.size; obtain ⟨c2_0, f2_0, c2_1, f2_1⟩ := g2f (w.heap.size) (.int .i64 0) (.slice none 0 0) gg2 aJ; obtain ⟨l2_0, n2_0, m2_0⟩ := lnm (show w.heap.size < w2.heap.size by first | omega | (simp at y2; omega)); clear r2 gg2
  go_wp2_with fail
  exact bodyPost_ret (v := .agg #[.int .i64 0, .slice none 0 0]) (by simp [results, Tryz.results108, go_sem, *]) rfl (by rw [HG.out]; exact ⟨_, _, rfl, RdTo.belowB H.out T2.out bw, rfl, NodesF.nil _ _⟩)
 ·have he1 : e1 = 0 := by
   by_cases he : e1 = 0
   ·exact he
   ·exact absurd (hf.1 he).1 hd
  subst he1
  have hd8 := (hf.2 rfl).2.2
  have hd8' : d ≤ 8 := by simp only at hd8; omega
  have hz0 : (z == 0) = false := by rw [beq_eq_false_iff_ne]; omega
  obtain ⟨⟨ro, p2, e2⟩, h2⟩ : ∃ r, rdNodes l d p = r := ⟨_, rfl⟩
  have HNO := hH (fun W (hW : Rd W R v l p 0) => show Calls Tryz.prog 135 #[.pointer (some ⟨R, 0, none⟩), .int .i64 z] W fun e' w' => ∃ na nn nc, e' = .returned (.slice na nn nc) ∧ RdTo W R v l w' p2 e2 ∧ (∀ T, ro = some T → NodesF W.heap.size w' (.slice na nn nc) (T.flat 0)) ∧ (ro = none → na = none ∧ nn = 0 ∧ nc = 0) from by
   have := nodes_any hW hb hp hl d ⟨by omega, hd8'⟩
   rw [h2, ← hz] at this
   exact this)
  have hsp := rdB_spec hb d 7 p hp
  have HZ := hH hz
  cases ro with
  | none =>
   have he2 := (hsp.1 p2 e2 h2).1
   have j1 : (e2 == 0) = false := by rw [beq_eq_false_iff_ne]; exact he2
   have j2 : (e2 != 0) = true := by simp [he2]
   have HG := hH (gT_none h1 hd h2)
   clear hsp hf h hb h1 hp hz hd hd8 hd8' h2 he2
   go_enter Tryz.func108, Tryz.ntmps108
   go_wp2_with fail
   (with_reducible refine (HN.out _ (H.out.below bw)).mono ?_); rintro e w1 ⟨rfl, r1⟩; have gg1 := r1.2; have T1 := hH (RdTo.from (w := w) (show Below w.heap.size w _ from bw) r1); have y1 := gg1.size; have x1 := T1.out.2.size; obtain ⟨c1_0, f1_0, c1_1, f1_1⟩ := g2f (w.heap.size) (.int .i64 0) (.slice none 0 0) gg1 aJ; obtain ⟨l1_0, n1_0, m1_0⟩ := lnm (show w.heap.size < w1.heap.size by first | omega | (simp at y1; omega)); clear r1 gg1
   go_wp2_with fail
   (with_reducible refine (HNO.out _ T1.out.now).mono ?_); rintro e w2 ⟨na, nn, nc, rfl, r2, -, hN⟩; have gg2 := r2.2; have T2 := hH (RdTo.trans (RdTo.belowB H.out T1.out bw) r2); have y2 := gg2.size; have x2 := T2.out.2.size; obtain ⟨c2_0, f2_0, c2_1, f2_1⟩ := g2f (w.heap.size) (.int .i64 0) (.slice none 0 0) gg2 aJ; obtain ⟨l2_0, n2_0, m2_0⟩ := lnm (show w.heap.size < w2.heap.size by first | omega | (simp at y2; omega)); clear r2 gg2
   obtain ⟨rfl, rfl, rfl⟩ := hN (by simp)
   clear hN
   go_wp2_with fail
   refine (err_any (T2.out.now.below bw)).mono ?_
   rintro e3 w3 ⟨rfl, rfl⟩
   go_wp2_with fail
   refine (err_any (T2.out.now.below bw)).mono ?_
   rintro e3 w3 ⟨rfl, rfl⟩
   go_wp2_with fail
   exact bodyPost_ret (v := .agg #[.int .i64 0, .slice none 0 0]) (by simp [results, Tryz.results108, go_sem, *]) rfl (by rw [HG.out]; exact ⟨_, _, rfl, RdTo.belowB H.out T2.out bw, rfl, NodesF.nil _ _⟩)
  | some T =>
   have he2 := (hsp.2 T p2 e2 h2).1
   subst he2
   have hg := gT_some h1 hd h2
   by_cases hT : treeB ⟨(d : Int), T.flat 0⟩ = true
   ·rw [if_pos hT] at hg
    have HG := hH hg
    have HT := hH hT
    clear hsp hf h hb h1 hp hz hd hd8 hd8' h2 hg hT
    go_enter Tryz.func108, Tryz.ntmps108
    go_wp2_with fail
    (with_reducible refine (HN.out _ (H.out.below bw)).mono ?_); rintro e w1 ⟨rfl, r1⟩; have gg1 := r1.2; have T1 := hH (RdTo.from (w := w) (show Below w.heap.size w _ from bw) r1); have y1 := gg1.size; have x1 := T1.out.2.size; obtain ⟨c1_0, f1_0, c1_1, f1_1⟩ := g2f (w.heap.size) (.int .i64 0) (.slice none 0 0) gg1 aJ; obtain ⟨l1_0, n1_0, m1_0⟩ := lnm (show w.heap.size < w1.heap.size by first | omega | (simp at y1; omega)); clear r1 gg1
    go_wp2_with fail
    (with_reducible refine (HNO.out _ T1.out.now).mono ?_); rintro e w2 ⟨na, nn, nc, rfl, r2, hT2, -⟩; have gg2 := r2.2; have T2 := hH (RdTo.trans (RdTo.belowB H.out T1.out bw) r2); have y2 := gg2.size; have x2 := T2.out.2.size; obtain ⟨c2_0, f2_0, c2_1, f2_1⟩ := g2f (w.heap.size) (.int .i64 0) (.slice none 0 0) gg2 aJ; obtain ⟨l2_0, n2_0, m2_0⟩ := lnm (show w.heap.size < w2.heap.size by first | omega | (simp at y2; omega)); clear r2 gg2
    have F2 := hH (hT2 T rfl)
    clear hT2
    go_wp2_with fail
    refine (err_any (T2.out.now.below bw)).mono ?_
    rintro e3 w3 ⟨rfl, rfl⟩
    go_wp2_with fail
    have HTR := hH (fun W (hW : NodesF w1.heap.size W (.slice na nn nc) (T.flat 0)) => show Calls Tryz.prog 131 #[.agg #[.int .i64 z, .slice na nn nc]] W fun e w' => e = .returned (.bool true) ∧ Below W.heap.size W w' from by
     have := tis_any (.agg #[.int .i64 z, .slice na nn nc]) ⟨(d : Int), T.flat 0⟩ W ⟨_, by rw [HZ.out], hW.now⟩
     rw [HT.out] at this
     exact this)
    (with_reducible refine (HTR.out _ (F2.out.below bw)).mono ?_)
    rintro e3 w3 ⟨rfl, b3⟩
    have y3 := b3.size
    simp only [World.size_alloc] at y3
    (obtain ⟨c3_0, f3_0, c3_1, f3_1⟩ := k2f (w.heap.size) (.int .i64 0) (.slice none 0 0) b3 aJ); (obtain ⟨c3_2, c3_3⟩ := k2 (w2.heap.size) (.int .i64 z) (.slice na nn nc) b3 aJ); (obtain ⟨l3_0, n3_0, m3_0⟩ := lnm (show w.heap.size < w3.heap.size by omega)); (obtain ⟨l3_1, n3_1, m3_1⟩ := lnm (show w2.heap.size < w3.heap.size by omega))
    have T3 := hH (RdTo.belowB H.out T2.out (Bc (B := w.heap.size) (a := w2) bw b3))
    have F3 := hH ((F2.out.below bw).below b3)
    clear b3
    go_wp2_with fail
    refine (err_any T3.out.now).mono ?_
    rintro e4 w4 ⟨rfl, rfl⟩
    go_wp2_with fail
    exact bodyPost_ret (v := .agg #[.int .i64 z, .slice na nn nc]) (by simp [results, Tryz.results108, go_sem, *]) rfl (by rw [HG.out]; exact ⟨_, _, rfl, RdTo.belowB H.out T3.out bw, HZ.out, NodesF.low (show NodesF w1.heap.size _ (.slice na nn nc) (T.flat 0) from by (repeat (first | with_reducible exact F3.out | with_reducible refine NodesF.drew ?_ | refine NodesF.set (.inl (by omega)) ?_))) (by first | omega | (simp at *; omega))⟩)
   ·rw [if_neg hT] at hg
    have HG := hH hg
    have HT := hH (Bool.eq_false_iff.2 hT)
    clear hsp hf h hb h1 hp hz hd hd8 hd8' h2 hg hT
    go_enter Tryz.func108, Tryz.ntmps108
    go_wp2_with fail
    (with_reducible refine (HN.out _ (H.out.below bw)).mono ?_); rintro e w1 ⟨rfl, r1⟩; have gg1 := r1.2; have T1 := hH (RdTo.from (w := w) (show Below w.heap.size w _ from bw) r1); have y1 := gg1.size; have x1 := T1.out.2.size; obtain ⟨c1_0, f1_0, c1_1, f1_1⟩ := g2f (w.heap.size) (.int .i64 0) (.slice none 0 0) gg1 aJ; obtain ⟨l1_0, n1_0, m1_0⟩ := lnm (show w.heap.size < w1.heap.size by first | omega | (simp at y1; omega)); clear r1 gg1
    go_wp2_with fail
    (with_reducible refine (HNO.out _ T1.out.now).mono ?_); rintro e w2 ⟨na, nn, nc, rfl, r2, hT2, -⟩; have gg2 := r2.2; have T2 := hH (RdTo.trans (RdTo.belowB H.out T1.out bw) r2); have y2 := gg2.size; have x2 := T2.out.2.size; obtain ⟨c2_0, f2_0, c2_1, f2_1⟩ := g2f (w.heap.size) (.int .i64 0) (.slice none 0 0) gg2 aJ; obtain ⟨l2_0, n2_0, m2_0⟩ := lnm (show w.heap.size < w2.heap.size by first | omega | (simp at y2; omega)); clear r2 gg2
    have F2 := hH (hT2 T rfl)
    clear hT2
    go_wp2_with fail
    refine (err_any (T2.out.now.below bw)).mono ?_
    rintro e3 w3 ⟨rfl, rfl⟩
    go_wp2_with fail
    have HTR := hH (fun W (hW : NodesF w1.heap.size W (.slice na nn nc) (T.flat 0)) => show Calls Tryz.prog 131 #[.agg #[.int .i64 z, .slice na nn nc]] W fun e w' => e = .returned (.bool false) ∧ Below W.heap.size W w' from by
     have := tis_any (.agg #[.int .i64 z, .slice na nn nc]) ⟨(d : Int), T.flat 0⟩ W ⟨_, by rw [HZ.out], hW.now⟩
     rw [HT.out] at this
     exact this)
    (with_reducible refine (HTR.out _ (F2.out.below bw)).mono ?_)
    rintro e3 w3 ⟨rfl, b3⟩
    have y3 := b3.size
    simp only [World.size_alloc] at y3
    (obtain ⟨c3_0, f3_0, c3_1, f3_1⟩ := k2f (w.heap.size) (.int .i64 0) (.slice none 0 0) b3 aJ); (obtain ⟨c3_2, c3_3⟩ := k2 (w2.heap.size) (.int .i64 z) (.slice na nn nc) b3 aJ); (obtain ⟨l3_0, n3_0, m3_0⟩ := lnm (show w.heap.size < w3.heap.size by omega)); (obtain ⟨l3_1, n3_1, m3_1⟩ := lnm (show w2.heap.size < w3.heap.size by omega))
    have T3 := hH (RdTo.belowB H.out T2.out (Bc (B := w.heap.size) (a := w2) bw b3))
    have F3 := hH ((F2.out.below bw).below b3)
    clear b3
    go_wp2_with fail
    (with_reducible refine (fail_any T3.out.now 211).mono ?_); rintro e w4 ⟨rfl, r4⟩; have gg4 := r4.2; have T4 := hH (RdTo.trans (RdTo.belowB H.out T3.out bw) r4); have y4 := gg4.size; have x4 := T4.out.2.size; obtain ⟨c4_0, f4_0, c4_1, f4_1⟩ := g2f (w.heap.size) (.int .i64 0) (.slice none 0 0) gg4 aJ; obtain ⟨l4_0, n4_0, m4_0⟩ := lnm (show w.heap.size < w4.heap.size by first | omega | (simp at y4; omega)); clear r4 gg4
    go_wp2_with fail
    refine (err_any (T4.out.now.below bw)).mono ?_
    rintro e5 w5 ⟨rfl, rfl⟩
    go_wp2_with fail
    exact bodyPost_ret (v := .agg #[.int .i64 0, .slice none 0 0]) (by simp [results, Tryz.results108, go_sem, *]) rfl (by rw [HG.out]; exact ⟨_, _, rfl, RdTo.belowB H.out T4.out bw, rfl, NodesF.nil _ _⟩)
end Go.Proofs.YtgobbecpnjelmaaGreat
