/-
  WoodK: Walk of wood.GetForest.
-/
import Derived.Test.YtgobbecpnjelmaaGreatKWoodH
import Derived.Test.YtgobbecpnjelmaaGreatJ2b
import Derived.Test.YtgobbecpnjelmaaGreatJ4a
namespace Go.Proofs.YtgobbecpnjelmaaGreat
open Go.RowKit

/-- v is a slice of grown trees that lies in blocks from B on. -/
def GrownsF (B : Nat) (w : World) (v : Value) (l : List (TreeP × Int)) : Prop := ∀ W : World, (∀ b, B ≤ b → b < w.heap.size → W.heap[b]? = w.heap[b]?) → w.heap.size ≤ W.heap.size → GrownsR W v l

section
variable {B B' : Nat} {w w' : World} {v : Value} {l : List (TreeP × Int)}

theorem GrownsF.now (h : GrownsF B w v l) : GrownsR w v l := h w (fun _ _ _ => rfl) (Nat.le_refl _)

theorem GrownsF.keep (h : GrownsF B w v l) (hk : ∀ b, B ≤ b → b < w.heap.size → w'.heap[b]? = w.heap[b]?) (hz : w.heap.size ≤ w'.heap.size) : GrownsF B w' v l := fun W hW hz' =>
 h W (fun b h1 h2 => (hW b h1 (Nat.lt_of_lt_of_le h2 hz)).trans (hk b h1 h2)) (Nat.le_trans hz hz')

theorem GrownsF.low (h : GrownsF B w v l) (hB : B' ≤ B) : GrownsF B' w v l := fun W hW hz => h W (fun b h1 h2 => hW b (Nat.le_trans hB h1) h2) hz

theorem GrownsF.only {R : Nat} (h : GrownsF B w v l) (hR : R < B) (g : w.grownBy w' (some R)) : GrownsF B w' v l := h.keep (fun b h1 h2 => g.block b h2 (fun e => by injection e with e; omega)) g.size

theorem GrownsF.below (h : GrownsF B w v l) (g : Below w.heap.size w w') : GrownsF B w' v l := h.keep (fun b _ h2 => g.block b h2) g.size

theorem GrownsF.set {X o : Nat} {u : Value} (hX : X < B ∨ w.heap.size ≤ X) (h : GrownsF B w v l) : GrownsF B (w.setCell ⟨X, o, none⟩ u) v l := h.keep (fun b h1 h2 => Below.heap_setCell _ _ _ _ (show b ≠ X by omega)) (by simp)

theorem GrownsF.new (x : Obj) (h : GrownsF B w v l) : GrownsF B (w.alloc x) v l := h.below ((Below.refl _ _).alloc (Nat.le_refl _) x)

theorem GrownsF.drew (h : GrownsF B w v l) : GrownsF B w.drew v l := h

theorem GrownsF.nil (B : Nat) (w : World) : GrownsF B w (.slice none 0 0) [] := fun W _ _ => growns_nil W 0 (by omega)
end

theorem ApartB.only {B R : Nat} {r : Option Nat} {w w1 : World} {v : Value} {l : List NodeP} (h : ApartB B r w v l) (hR : R < B) (hg : w.grownBy w1 (some R)) : ApartB B r w1 v l := fun W hW hz =>
 h W (fun b h0 h1 h2 => (hW b h0 h1 (Nat.lt_of_lt_of_le h2 hg.size)).trans (hg.block b h2 (fun e => by injection e with e; omega))) (Nat.le_trans hg.size hz)

/-- Grown trees under way. -/
structure ForSt (B : Nat) (U : World) (fv : Value) (ps : List GrV) : Prop where
 hB : B ≤ U.heap.size
 ou : U.ownsRow B 108 3 fv ps.length (ps.flatMap rowG)
 ap : ∀ p ∈ ps, Ok64 p.1.2 ∧ ApartB B fv.ownBlock U p.2 p.1.1.nodes

section
variable {B R : Nat} {U U' : World} {fv fv' : Value} {ps : List GrV}

theorem ForSt.only (S : ForSt B U fv ps) (hR : R < B) (g : U.grownBy U' (some R)) : ForSt B U' fv ps :=
 ⟨Nat.le_trans S.hB g.size, own_at S.ou fun b hb => g.block b (S.ou.lt b hb).2 (fun e => by injection e with e; have := (S.ou.lt b hb).1; omega), fun p hp => ⟨(S.ap p hp).1, (S.ap p hp).2.only hR g⟩⟩

theorem ForSt.later (S : ForSt B U fv ps) (g : Below U.heap.size U U') : ForSt B U' fv ps :=
 ⟨Nat.le_trans S.hB g.size, own_at S.ou fun b hb => g.block b (S.ou.lt b hb).2, fun p hp => ⟨(S.ap p hp).1, (S.ap p hp).2.later g (Nat.le_refl _)⟩⟩

theorem ForSt.new (S : ForSt B U fv ps) (x : Obj) : ForSt B (U.alloc x) fv ps := S.later ((Below.refl _ _).alloc (Nat.le_refl _) x)

theorem ForSt.drew (S : ForSt B U fv ps) : ForSt B U.drew fv ps := ⟨S.hB, S.ou, S.ap⟩

theorem ForSt.set {X o : Nat} {u : Value} (hX : X < B ∨ U.heap.size ≤ X) (S : ForSt B U fv ps) : ForSt B (U.setCell ⟨X, o, none⟩ u) fv ps := by
 have hb : ∀ b, B ≤ b → b < U.heap.size → (U.setCell ⟨X, o, none⟩ u).heap[b]? = U.heap[b]? := fun b h1 h2 => Below.heap_setCell _ _ _ _ (show b ≠ X by omega)
 exact ⟨by simpa using S.hB, own_at S.ou fun b h => hb b (S.ou.lt b h).1 (S.ou.lt b h).2, fun p hp => ⟨(S.ap p hp).1, fun W hW hz => (S.ap p hp).2 W (fun b h0 h1 h2 => (hW b h0 h1 (by simpa using h2)).trans (hb b h0 h2)) (by simpa using hz)⟩⟩

theorem ForSt.nil (B : Nat) (U : World) (h : B ≤ U.heap.size) : ForSt B U (.slice none 0 0) [] := ⟨h, World.ownsRow_nil _ _ _ _, fun p hp => by simp at hp⟩

theorem ForSt.add {nv : Value} {t : TreeP} {z : Int} {C : Nat} (S : ForSt B U fv ps) (hC : B ≤ C) (hC2 : ∀ b, fv.ownBlock = some b → b < C) (ht : NodesF C U nv t.nodes) (hz : Ok64 z) (ho : U'.ownsRow B 108 3 fv' (ps.length + 1) (ps.flatMap rowG ++ rowG ((t, z), nv))) (g : U.grownBy U' fv.ownBlock) (hn : NewB U fv fv') : ForSt B U' fv' (ps ++ [((t, z), nv)]) := by
 refine ⟨Nat.le_trans S.hB g.size, ?_, fun p hp => ?_⟩
 ·rw [List.length_append, List.flatMap_append]
  simpa using ho
 ·rcases List.mem_append.1 hp with hp | hp
  ·exact ⟨(S.ap p hp).1, (S.ap p hp).2.grown g hn⟩
  ·obtain rfl : p = ((t, z), nv) := by simpa using hp
   exact ⟨hz, (ht.apartB hC hC2).grown g hn⟩

theorem ForSt.fin (S : ForSt B U fv ps) (hn : ps.length ≤ 1000) : GrownsF B U fv (ps.map (·.1)) := fun W hW hz =>
 own_growns (own_at S.ou fun b hb => hW b (S.ou.lt b hb).1 (S.ou.lt b hb).2) rfl hn fun p hp => ⟨(S.ap p hp).1, (S.ap p hp).2 W (fun b h0 _ h2 => hW b h0 h2) hz⟩
end

set_option maxRecDepth 100000 in
set_option maxHeartbeats 16000000 in
theorem getForest_any {w : World} {R : Nat} {v : Value} {l : List Int} {a : Nat} {e : Int} (h : Rd w R v l a e) (hb : AllB l) (ha : a ≤ l.length) (hl : l.length ≤ 100000) :
  Calls Tryz.prog 64 #[.pointer (some ⟨R, 0, none⟩)] w fun e' w' => ∃ fv, e' = .returned fv ∧ RdTo w R v l w' (gFw l a e).2.1 (gFw l a e).2.2 ∧ GrownsF w.heap.size w' fv (gFw l a e).1 := by
 have H := hH h
 have hR := h.lt
 have HB := hH hb
 obtain ⟨⟨n, p, e1⟩, h1⟩ : ∃ r, rdN' l a e 16 = r := ⟨_, rfl⟩
 have H1 := hH h1
 have hp : p ≤ l.length := by have := rdN'_le hb ha e 16; rw [h1] at this; exact this
 have HP := hH hp
 have hf := rdN'_facts l hb a e 16
 rw [h1] at hf
 have hn16 : n ≤ 16 := by
  by_cases he : e1 = 0
  ·have := (hf.2 he).2.2; simp only at this; omega
  ·have := (hf.1 he).1; simp only at this; omega
 obtain ⟨z, hz⟩ : ∃ z, z = (n : Int) := ⟨_, rfl⟩
 have HZ := hH hz
 have HN := hH (show Calls Tryz.prog 61 #[.pointer (some ⟨R, 0, none⟩), .int .i64 16] w fun e' w' => e' = .returned (.int .i64 z) ∧ RdTo w R v l w' p e1 from by
  have := readN_all h hb ha hl 16 (by unfold Ok64; omega)
  rw [h1] at this
  rw [hz]
  exact this)
 obtain ⟨⟨F, pF, eF⟩, h2⟩ : ∃ r, gFs l n p e1 = r := ⟨_, rfl⟩
 have H2 := hH h2
 have hFe : gFw l a e = if eF ≠ 0 then ([], pF, eF) else if isF F = true then (F, pF, eF) else ([], pF, 211) := by
  by_cases he : eF = 0
  ·subst he
   rw [if_neg (by simp)]
   cases hi : isF F with
   | true => rw [if_pos rfl, gF_yes h1 h2 hi]
   | false => rw [if_neg (by simp), gF_no h1 h2 hi]
  ·rw [if_pos he, gF_bad h1 h2 he]
 have HF := hH hFe
 have hFl : F.length ≤ 16 := by have := gFs_le l n p e1; rw [h2] at this; exact Nat.le_trans this hn16
 clear hf h hb h1 hp h2 hFe hz
 go_enter Tryz.func64, Tryz.ntmps64
 go_wp2_with fail
 (with_reducible refine (HN.out).mono ?_); rintro e w1 ⟨rfl, r1⟩; have gg1 := r1.2; have T1 := hH (RdTo.from (w := w) (show Below w.heap.size w _ from bw) r1); have y1 := gg1.size; have x1 := T1.out.2.size; clear r1 gg1
 go_wp2_with fail
 go_loopw [3, 4, 5] (fun fv nv _ wr => ∃ (m : Nat) (z' : Int) (p' : Nat) (e' : Int) (ps : List GrV), nv = .int .i64 z' ∧ z' = (m : Int) ∧ ps.length + m ≤ 16 ∧ p' ≤ l.length ∧ RdTo w R v l wr p' e' ∧ ForSt w.heap.size wr fv ps ∧ (F, pF, eF) = (ps.map (·.1) ++ (gFs l m p' e').1, (gFs l m p' e').2)) (fun _ nv _ _ => (intOf nv).toNat)
 case atStart => exact ⟨n, z, p, e1, [], rfl, HZ.out, by simpa using hn16, HP.out, T1.out, ForSt.nil _ _ (by omega), by rw [H2.out]; rfl⟩
 case round =>
  obtain ⟨m, z', p', e', ps, rfl, hz', hlen, hp', hT, hS, hres⟩ := hrel
  rename World => wi
  have HT := hH hT
  have HS := hH hS
  have HRES := hH hres
  have HP' := hH hp'
  have HLEN := hH hlen
  have HZ' := hH hz'
  obtain ⟨fa, fc, rfl⟩ := own_shapeN hS.ou
  have zi := hT.2.size
  cases m with
  | zero =>
   have hz0 : z' = 0 := by omega
   have hF : F = ps.map (·.1) ∧ pF = p' ∧ eF = e' := by
    injection hres with q1 q2
    injection q2 with q2 q3
    exact ⟨q1.trans (List.append_nil _), q2, q3⟩
   obtain ⟨hF1, rfl, rfl⟩ := hF
   have HGF := hH (hS.fin (by omega))
   rw [← hF1] at HGF
   clear hT hS hres hp' hlen hz' hF1
   subst hz0
   by_cases he : eF = 0
   ·subst he
    go_wp2_with fail
    refine (err_any (HT.out.now.below bw)).mono ?_
    rintro e3 w3 ⟨rfl, rfl⟩
    go_wp2_with fail
    cases hi : isF F with
    | true =>
     have HI := hH hi
     have HIS := hH (fun W (hW : GrownsR W (.slice fa ps.length fc) F) => show Calls Tryz.prog 76 #[.slice fa ps.length fc] W fun e w' => e = .returned (.bool true) ∧ Below W.heap.size W w' from by
      have := fis_any _ F W hW
      rw [hi] at this
      exact this)
     clear hi
     (with_reducible refine (HIS.out _ HGF.out.now).mono ?_)
     rintro e3 w3 ⟨rfl, b3⟩
     have y3 := b3.size
     have T3 := hH (RdTo.belowB H.out HT.out (Bc (B := w.heap.size) bw b3))
     have G3 := hH (HGF.out.below b3)
     clear b3
     go_wp2_with fail
     refine (err_any (T3.out.now.below bw)).mono ?_
     rintro e3 w4 ⟨rfl, rfl⟩
     go_wp2_with fail
     go_ret
     rw [HF.out, if_neg (by simp), if_pos HI.out]
     exact ⟨_, rfl, RdTo.belowB H.out T3.out bw, G3.out⟩
    | false =>
     have HI := hH hi
     have HIS := hH (fun W (hW : GrownsR W (.slice fa ps.length fc) F) => show Calls Tryz.prog 76 #[.slice fa ps.length fc] W fun e w' => e = .returned (.bool false) ∧ Below W.heap.size W w' from by
      have := fis_any _ F W hW
      rw [hi] at this
      exact this)
     clear hi
     (with_reducible refine (HIS.out _ HGF.out.now).mono ?_)
     rintro e3 w3 ⟨rfl, b3⟩
     have y3 := b3.size
     have T3 := hH (RdTo.belowB H.out HT.out (Bc (B := w.heap.size) bw b3))
     clear b3
     go_wp2_with fail
     refine (fail_any (T3.out.now.below bw) 211).mono ?_
     rintro e3 w4 ⟨rfl, r4⟩
     rw [failE_pos _ (by decide)] at r4
     have T4 := hH (RdTo.trans (RdTo.belowB H.out T3.out bw) r4)
     clear r4
     go_wp2_with fail
     refine (err_any (T4.out.now.below bw)).mono ?_
     rintro e3 w5 ⟨rfl, rfl⟩
     go_wp2_with fail
     go_ret
     rw [HF.out, if_neg (by simp), if_neg (by simp [HI.out])]
     exact ⟨_, rfl, RdTo.belowB H.out T4.out bw, GrownsF.nil _ _⟩
   ·have j1 : (eF == 0) = false := by rw [beq_eq_false_iff_ne]; exact he
    have j2 : (eF != 0) = true := by simp [he]
    have HE := hH he
    clear he
    go_wp2_with fail
    refine (err_any (HT.out.now.below bw)).mono ?_
    rintro e3 w3 ⟨rfl, rfl⟩
    go_wp2_with fail
    refine (err_any (HT.out.now.below bw)).mono ?_
    rintro e3 w3 ⟨rfl, rfl⟩
    go_wp2_with fail
    go_ret
    rw [HF.out, if_pos HE.out]
    exact ⟨_, rfl, RdTo.belowB H.out HT.out bw, GrownsF.nil _ _⟩
  | succ k =>
   have hz1 : (0 : Int) < z' := by omega
   have hz2 : z' = (k : Int) + 1 := by omega
   have hk16 : (k : Int) ≤ 16 := by omega
   by_cases he : e' = 0
   ·subst he
    obtain ⟨⟨b, p2, e2⟩, hb2⟩ : ∃ r, rdN' l p' 0 1099511627776 = r := ⟨_, rfl⟩
    have hp2 : p2 ≤ l.length := by have := rdN'_le HB.out hp' 0 1099511627776; rw [hb2] at this; exact this
    obtain ⟨⟨t, p3, e3⟩, hb3⟩ : ∃ r, gT l p2 e2 = r := ⟨_, rfl⟩
    have hp3 : p3 ≤ l.length := by have := (gT_spec HB.out hp2 e2).1; rw [hb3] at this; exact this
    obtain ⟨⟨fs, p4, e4⟩, hb4⟩ : ∃ r, gFs l k p3 e3 = r := ⟨_, rfl⟩
    have HB4 := hH hb4
    have hst := gFs_step (gG_of hb2 hb3) hb4
    rw [hst] at hres
    have hbM : (b : Int) ≤ 1099511627776 := by
     have := rdN'_facts l HB.out p' 0 1099511627776
     rw [hb2] at this
     by_cases h : e2 = 0
     ·exact (this.2 h).2.2
     ·have := (this.1 h).1; simp only at this; omega
    have HBM := hH hbM
    have HR2 := hH hres
    have HP3 := hH hp3
    have HNB := hH (fun W (hW : Rd W R v l p' 0) => show Calls Tryz.prog 61 #[.pointer (some ⟨R, 0, none⟩), .int .i64 1099511627776] W fun e' w' => e' = .returned (.int .i64 (b : Int)) ∧ RdTo W R v l w' p2 e2 from by
     have := readN_all hW HB.out hp' hl 1099511627776 (by unfold Ok64; omega)
     rw [hb2] at this
     exact this)
    have HGT := hH (fun W (hW : Rd W R v l p2 e2) => show Calls Tryz.prog 108 #[.pointer (some ⟨R, 0, none⟩)] W fun e' w' => ∃ d nv, e' = .returned (.agg #[.int .i64 d, nv]) ∧ RdTo W R v l w' p3 e3 ∧ d = t.dim ∧ NodesF W.heap.size w' nv t.nodes from by
     have := getTree_any hW HB.out hp2 hl
     rw [hb3] at this
     exact this)
    clear hT hS hres hp' hlen hz' hb2 hb3 hb4 hst hp2 hp3 hbM
    go_wp2_with fail
    refine (err_any (HT.out.now.below bw)).mono ?_
    rintro e5 w5 ⟨rfl, rfl⟩
    go_wp2_with fail
    (with_reducible refine (HNB.out _ (HT.out.now.below bw)).mono ?_)
    rintro e5 w3 ⟨rfl, r3⟩
    have y3 := r3.2.size
    have T3 := hH (RdTo.trans HT.out r3)
    have S3 := hH (HS.out.only hR r3.2)
    clear r3
    go_wp2_with fail
    (with_reducible refine (HGT.out _ (T3.out.now.below bw)).mono ?_)
    rintro e5 w4 ⟨d4, nv, rfl, r4, hd4, hf4⟩
    obtain ⟨na, nc, rfl, -⟩ := hf4.now
    have y4 := r4.2.size
    have T4 := hH (RdTo.trans T3.out r4)
    have S4 := hH (S3.out.only hR r4.2)
    have F4 := hH hf4
    have HD4 := hH hd4
    clear r4 hf4 hd4
    go_wp2_with (at_builtin; go_must (refine app1N rfl _ _ 25 rfl Tryz.underlying25 eiGrown w.heap.size (by rfl) S4.out.ou (by rfl) (by first | rfl | simp) rfl (by simp [Value.oneCell']) (by have := HLEN.out; omega) mJ ?_))
    intro v5 w5 o5 g5 nb5
    have y5 := g5.size
    have T5 := hH (RdTo.belowB H.out T4.out (below_grown (Below.refl _ _) g5 (fun x hx => (S4.out.ou.lt x hx).1) (by omega)))
    have S5 := hH (S4.out.add (C := w3.heap.size) (z := (b : Int)) (nv := .slice na t.nodes.length nc) (by omega) (fun x hx => (S3.out.ou.lt x hx).2) F4.out (by have := HBM.out; unfold Ok64; omega) (by rw [HD4.out] at o5; simpa [rowG] using o5) g5 nb5)
    clear o5 g5 nb5
    go_wp2_with fail
    go_roundw
    case rel => exact ⟨k, (k : Int), p3, e3, _, by go_num, rfl, by have := HLEN.out; rw [List.length_append]; simp; omega, HP3.out, T5.out, S5.out, by rw [HR2.out, HB4.out, List.map_append, List.append_assoc]; rfl⟩
    case measure => simp [intOf] <;> omega
   ·have j1 : (e' == 0) = false := by rw [beq_eq_false_iff_ne]; exact he
    have j2 : (e' != 0) = true := by simp [he]
    have hF : pF = p' ∧ eF = e' := by
     rw [gFs_stop l _ _ he] at hres
     injection hres with q1 q2
     injection q2 with q2 q3
     exact ⟨q2, q3⟩
    obtain ⟨rfl, rfl⟩ := hF
    have HE := hH he
    clear hT hS hres hp' hlen hz' he
    go_wp2_with fail
    refine (err_any (HT.out.now.below bw)).mono ?_
    rintro e5 w5 ⟨rfl, rfl⟩
    go_wp2_with fail
    refine (err_any (HT.out.now.below bw)).mono ?_
    rintro e3 w3 ⟨rfl, rfl⟩
    go_wp2_with fail
    refine (err_any (HT.out.now.below bw)).mono ?_
    rintro e3 w3 ⟨rfl, rfl⟩
    go_wp2_with fail
    go_ret
    rw [HF.out, if_pos HE.out]
    exact ⟨_, rfl, RdTo.belowB H.out HT.out bw, GrownsF.nil _ _⟩
end Go.Proofs.YtgobbecpnjelmaaGreat
