/-
  ItemX: Walk of item.GetSeen.
-/
import Derived.Test.YtgobbecpnjelmaaGreatJ3a
namespace Go.Proofs.YtgobbecpnjelmaaGreat
open Go.RowKit

def GotN (w : World) (R : Nat) (v : Value) (l : List Int) (r : SeenT × Nat × Int) (e : Ending) (w' : World) : Prop :=
 ∃ vx, e = .returned (.agg #[.int .i64 r.1.1, vx, .int .i64 r.1.2.2.1, .int .i64 r.1.2.2.2.1, .bool r.1.2.2.2.2]) ∧ Ints .i64 w' vx r.1.2.1 ∧ RdTo w R v l w' r.2.1 r.2.2 ∧ Fresh w.heap.size vx

theorem GotN.zero {w : World} {R : Nat} {v : Value} {l : List Int} {a : Nat} {e : Int} {w' : World} (h : RdTo w R v l w' a e) : GotN w R v l (seenT0, a, e) (.returned (.agg #[.int .i64 0, .slice none 0 0, .int .i64 0, .int .i64 0, .bool false])) w' :=
 ⟨_, rfl, ints_nil _ _ _ _ (by omega), h, fresh_nil _ _ _⟩

theorem rdI_call {w : World} {R : Nat} {v : Value} {l : List Int} {a : Nat} {e0 : Int} (hb : AllB l) (ha : a ≤ l.length) (hl : l.length ≤ 100000) (x : Int) (a' : Nat) (e' : Int) (hr : rdI' l a e0 = (x, a', e')) (h : Rd w R v l a e0) :
  Calls Tryz.prog 104 #[.pointer (some ⟨R, 0, none⟩)] w fun e w' => e = .returned (.int .i64 x) ∧ RdTo w R v l w' a' e' := by
 have := readI_all h hb ha hl
 rw [hr] at this
 exact this

theorem getScore_call {w : World} {R : Nat} {v : Value} {l : List Int} {a : Nat} {e0 : Int} (hb : AllB l) (ha : a ≤ l.length) (hl : l.length ≤ 100000) (P Q : Int) (s : Bool) (a' : Nat) (e' : Int) (hr : gSc l 1 a e0 = ((P, Q, s), a', e')) (h : Rd w R v l a e0) :
  s = true ∧ Calls Tryz.prog 105 #[.pointer (some ⟨R, 0, none⟩)] w fun e w' => e = .returned (.agg #[.int .i64 P, .int .i64 Q]) ∧ RdTo w R v l w' a' e' := by
 have := getScore_any h hb ha hl
 unfold gSc at hr
 rw [if_pos rfl] at hr
 injection hr with h1 h2
 injection h1 with h3 h4
 injection h4 with h5 h6
 injection h2 with h7 h8
 subst h3 h5 h6 h7 h8
 exact ⟨rfl, this⟩

set_option maxRecDepth 100000 in
set_option maxHeartbeats 4000000 in
theorem getSeen_bad {w : World} {R : Nat} {v : Value} {l : List Int} {a : Nat} {e0 : Int} (h : Rd w R v l a e0) (dim : Int) (hd : ¬ (1 ≤ dim ∧ dim ≤ 8)) :
  Calls Tryz.prog 63 #[.pointer (some ⟨R, 0, none⟩), .int .i64 dim] w fun e w' => GotN w R v l (getSeen l dim a e0) e w' := by
 have H := hH h
 have hR := h.lt
 unfold getSeen
 rw [if_neg hd]
 clear h
 have hd2 : dim < 1 ∨ (¬ dim < 1 ∧ 8 < dim) := by omega
 clear hd
 rcases hd2 with h1 | ⟨h1, h2⟩
 ·go_enter Tryz.func63, Tryz.ntmps63
  go_wp2_with fail
  (with_reducible refine (fail_any (H.out.below bw) 211).mono ?_)
  rintro e w1 ⟨rfl, r1⟩
  have gg1 := r1.2
  have T1 := hH (RdTo.from (w := w) (show Below w.heap.size w _ from bw) r1)
  have y1 := gg1.size
  obtain ⟨d0, f0, d1, f1, d2, f2, d3, f3, d4, f4⟩ := g5f (w.heap.size + 1) (.int .i64 0) (.slice none 0 0) (.int .i64 0) (.int .i64 0) (.bool false) gg1 aJ mJ (by omega)
  clear r1 gg1
  go_wp2_with fail
  exact bodyPost_ret (v := .agg #[.int .i64 0, .slice none 0 0, .int .i64 0, .int .i64 0, .bool false]) (by simp [results, Tryz.results63, go_sem, *]) rfl (GotN.zero (RdTo.belowB H.out T1.out bw))
 ·go_enter Tryz.func63, Tryz.ntmps63
  go_wp2_with fail
  (with_reducible refine (fail_any (H.out.below bw) 211).mono ?_)
  rintro e w1 ⟨rfl, r1⟩
  have gg1 := r1.2
  have T1 := hH (RdTo.from (w := w) (show Below w.heap.size w _ from bw) r1)
  have y1 := gg1.size
  obtain ⟨d0, f0, d1, f1, d2, f2, d3, f3, d4, f4⟩ := g5f (w.heap.size + 1) (.int .i64 0) (.slice none 0 0) (.int .i64 0) (.int .i64 0) (.bool false) gg1 aJ mJ (by omega)
  clear r1 gg1
  go_wp2_with fail
  exact bodyPost_ret (v := .agg #[.int .i64 0, .slice none 0 0, .int .i64 0, .int .i64 0, .bool false]) (by simp [results, Tryz.results63, go_sem, *]) rfl (GotN.zero (RdTo.belowB H.out T1.out bw))

set_option maxRecDepth 100000 in
set_option maxHeartbeats 16000000 in
theorem getSeen_ok {w : World} {R : Nat} {v : Value} {l : List Int} {a : Nat} {e0 : Int} (h : Rd w R v l a e0) (hb : AllB l) (ha : a ≤ l.length) (hl : l.length ≤ 100000) (D : Nat) (hD : 1 ≤ D ∧ D ≤ 8) (dim : Int) (hdim : dim = (D : Int)) :
  Calls Tryz.prog 63 #[.pointer (some ⟨R, 0, none⟩), .int .i64 dim] w fun e w' => GotN w R v l (getSeen l D a e0) e w' := by
 have H := hH h
 have hR := h.lt
 obtain ⟨r1, h1⟩ : ∃ r, rdN' l a e0 1099511627776 = r := ⟨_, rfl⟩
 obtain ⟨q1, a1, e1⟩ := r1
 have H1 := hH (fun W (hW : Rd W R v l a e0) => rdN_call hb ha hl 1099511627776 (by decide) _ _ _ h1 hW)
 have l1 := rdN'_le hb ha e0 1099511627776
 rw [h1] at l1
 have HLE := hH (fun k => rdXs_le hb l1 e1 k)
 have HI := hH (fun (k a' : Nat) (xs : List Int) (e' x : Int) (a2 : Nat) (e2 : Int) (hk : rdXs l k a1 e1 = (xs, a', e')) (hx : rdI' l a' e' = (x, a2, e2)) W (hW : Rd W R v l a' e') => rdI_call hb (by have := rdXs_le hb l1 e1 k; rw [hk] at this; exact this) hl x a2 e2 hx hW)
 obtain ⟨r2, h2⟩ : ∃ r, rdXs l D a1 e1 = r := ⟨_, rfl⟩
 obtain ⟨xs, a2, e2⟩ := r2
 have l2 := rdXs_le hb l1 e1 D
 rw [h2] at l2
 obtain ⟨r3, h3⟩ : ∃ r, rdN' l a2 e2 1 = r := ⟨_, rfl⟩
 obtain ⟨q3, a3, e3⟩ := r3
 have H3 := hH (fun W (hW : Rd W R v l a2 e2) => rdN_call hb l2 hl 1 (by decide) _ _ _ h3 hW)
 have l3 := rdN'_le hb l2 e2 1
 rw [h3] at l3
 have x3 := rdN'_one hb a2 e2
 rw [h3] at x3
 obtain ⟨r4, h4⟩ : ∃ r, gSc l q3 a3 e3 = r := ⟨_, rfl⟩
 obtain ⟨⟨P, Q, s⟩, a4, e4⟩ := r4
 obtain ⟨E, hE⟩ : ∃ E, E = finE e4 (seenTB ((q1 : Int), xs, P, Q, s) D) := ⟨_, rfl⟩
 have hg := getSeen_of (n := D) hD (gSn_of h1 h2 h3 h4) hE
 rw [hg]
 obtain ⟨T, hT⟩ : ∃ T, (if E = 0 then ((q1 : Int), xs, P, Q, s) else seenT0) = T := ⟨_, rfl⟩
 rw [hT]
 have HT := hH hT
 have HE := hH (show E = finE e4 (seenB (q1 : Int) xs P Q s dim) by rw [hdim]; exact hE)
 clear hg hT hE
 have H4 := hH (fun (e : q3 = 1) W (hW : Rd W R v l a3 e3) => getScore_call hb l3 hl P Q s a4 e4 (by rw [← e]; exact h4) hW)
 have H4' := hH (fun (e : q3 ≠ 1) => show ((P, Q, s), a4, e4) = ((0, 0, false), a3, e3) from h4.symm.trans (if_neg e))
 have H2 := hH h2
 have HXL := hH (show xs.length = D by have := rdXs_len l a1 e1 D; rw [h2] at this; exact this)
 have d1 : (1 : Int) ≤ dim := by omega
 have d2 : dim ≤ 8 := by omega
 obtain ⟨hD1, hD2⟩ := hD
 have HDIM := hH hdim
 clear h hb ha hl h1 h2 h3 h4 l1 l2 l3 hdim
 go_enter Tryz.func63, Tryz.ntmps63
 go_wp2_with fail
 (with_reducible refine (H1.out _ (H.out.below bw)).mono ?_); rintro e w1 ⟨rfl, r1⟩; have gg1 := r1.2; have T1 := hH (RdTo.from (w := w) (show Below w.heap.size w _ from bw) r1); have y1 := gg1.size; have x1 := T1.out.2.size; have c1_0 : w1.cell? ⟨w.heap.size, 0, none⟩ = some (.int .i64 dim) := gC gg1; obtain ⟨c1_1, f1_1, c1_2, f1_2, c1_3, f1_3, c1_4, f1_4, c1_5, f1_5⟩ := g5f (w.heap.size + 1) (.int .i64 0) (.slice none 0 0) (.int .i64 0) (.int .i64 0) (.bool false) gg1 aJ; obtain ⟨l1_0, n1_0, m1_0⟩ := lnm (show w.heap.size < w1.heap.size by first | omega | (simp at y1; omega)); obtain ⟨l1_1, n1_1, m1_1⟩ := lnm (show w.heap.size + 1 < w1.heap.size by first | omega | (simp at y1; omega)); clear r1 gg1
 go_wp2_with fail

 go_loopw [19] (fun i wr => ∃ (k : Nat) (acc : List Int) (a' : Nat) (e' : Int) (vx : Value), i = .int .i64 k ∧ k ≤ D ∧ rdXs l k a1 e1 = (acc, a', e') ∧ acc.length = k ∧ wr.ownsRow (w1.heap.size + 1) 3 1 vx acc.length (acc.map (Value.int .i64)) ∧ w1.heap.size + 1 ≤ wr.heap.size ∧ RdTo w R v l wr a' e' ∧ wr.cell? ⟨w.heap.size, 0, none⟩ = some (.int .i64 dim) ∧ (wr.cell? ⟨w.heap.size + 1, 0, none⟩ = some (.int .i64 0) ∧ wr.frozen? ⟨w.heap.size + 1, 0, none⟩ = false ∧ wr.cell? ⟨w.heap.size + 1, 1, none⟩ = some (.slice none 0 0) ∧ wr.frozen? ⟨w.heap.size + 1, 1, none⟩ = false ∧ wr.cell? ⟨w.heap.size + 1, 2, none⟩ = some (.int .i64 0) ∧ wr.frozen? ⟨w.heap.size + 1, 2, none⟩ = false ∧ wr.cell? ⟨w.heap.size + 1, 3, none⟩ = some (.int .i64 0) ∧ wr.frozen? ⟨w.heap.size + 1, 3, none⟩ = false ∧ wr.cell? ⟨w.heap.size + 1, 4, none⟩ = some (.bool false) ∧ wr.frozen? ⟨w.heap.size + 1, 4, none⟩ = false) ∧ (wr.cell? ⟨w1.heap.size, 0, none⟩ = some (.int .i64 q1) ∧ wr.frozen? ⟨w1.heap.size, 0, none⟩ = false ∧ wr.cell? ⟨w1.heap.size, 1, none⟩ = some (vx) ∧ wr.frozen? ⟨w1.heap.size, 1, none⟩ = false ∧ wr.cell? ⟨w1.heap.size, 2, none⟩ = some (.int .i64 0) ∧ wr.frozen? ⟨w1.heap.size, 2, none⟩ = false ∧ wr.cell? ⟨w1.heap.size, 3, none⟩ = some (.int .i64 0) ∧ wr.frozen? ⟨w1.heap.size, 3, none⟩ = false ∧ wr.cell? ⟨w1.heap.size, 4, none⟩ = some (.bool false) ∧ wr.frozen? ⟨w1.heap.size, 4, none⟩ = false)) (fun i _ => D - (intOf i).toNat)
 case atStart => exact ⟨0, [], a1, e1, .slice none 0 0, rfl, by omega, rfl, rfl, World.ownsRow_nil _ _ _ _, by simp, RdTo.belowB H.out T1.out bw, by and_intros <;> go_simp⟩
 case round =>
  obtain ⟨k, acc, a', e', vx, rfl, hk, hxs, hal, ho, hsz, hrd, b0, ⟨rc0, rf0, rc1, rf1, rc2, rf2, rc3, rf3, rc4, rf4⟩, ⟨sc0, sf0, sc1, sf1, sc2, sf2, sc3, sf3, sc4, sf4⟩⟩ := hrel
  have HXS := hH hxs
  have HAL := hH hal
  have HO := hH ho
  have TR := hH hrd
  have yR := hrd.2.size
  clear hxs hal ho hrd
  by_cases hlt : k < D
  ·obtain ⟨r, hr⟩ : ∃ r, rdI' l a' e' = r := ⟨_, rfl⟩
   obtain ⟨x, a2', e2'⟩ := r
   have HN := hH (rdXs_next HXS.out hr)
   have HC := hH (HI.out k a' acc e' x a2' e2' HXS.out hr)
   have i2 : (k : Int) < dim := by have := HDIM.out; omega
   have hk8 : (k : Int) ≤ 8 := by omega
   clear hr
   go_wp2_with fail
   refine wp_region_B (T := fun w' => w'.cell? ⟨w1.heap.size, 1, none⟩ = some (vx)) 7 rJ kJ (fun hHeld => ?_); refine lTF 0 rfl hHeld ?_; refine lTB 1 #[true, false, true, true, true, false, false, false] rfl hHeld ?_; refine lTF 2 rfl hHeld ?_; refine lexHvB 3 rfl ?_ rJ; (intro K hK); (go_simp; go_at_call 104; (with_reducible refine (HC.out _ (RdTo.belowB H.out TR.out bw).rd).mono ?_); rintro e w2 ⟨rfl, r2⟩; have gg2 := r2.2; have T2 := hH (RdTo.trans (RdTo.belowB H.out TR.out bw) r2); have y2 := gg2.size; have x2 := T2.out.2.size; have c2_0 : w2.cell? ⟨w.heap.size, 0, none⟩ = some (.int .i64 dim) := gC gg2; obtain ⟨c2_1, f2_1, c2_2, f2_2, c2_3, f2_3, c2_4, f2_4, c2_5, f2_5⟩ := g5f (w.heap.size + 1) (.int .i64 0) (.slice none 0 0) (.int .i64 0) (.int .i64 0) (.bool false) gg2 aJ; obtain ⟨c2_6, f2_6, c2_7, f2_7, c2_8, f2_8, c2_9, f2_9, c2_10, f2_10⟩ := g5f (w1.heap.size) (.int .i64 q1) (vx) (.int .i64 0) (.int .i64 0) (.bool false) gg2 aJ; obtain ⟨l2_0, n2_0, m2_0⟩ := lnm (show w.heap.size < w2.heap.size by first | omega | (simp at y2; omega)); obtain ⟨l2_1, n2_1, m2_1⟩ := lnm (show w.heap.size + 1 < w2.heap.size by first | omega | (simp at y2; omega)); obtain ⟨l2_2, n2_2, m2_2⟩ := lnm (show w1.heap.size < w2.heap.size by first | omega | (simp at y2; omega)); have HO := hH (own_only (by (repeat (first | with_reducible exact HO.out | with_reducible refine own_set ?_ mJ | with_reducible refine own_drew ?_ | with_reducible refine World.ownsRow.alloc ?_ _ | exact HO.out))) gg2 (by omega)); clear r2 gg2; (try go_wp2_with fail)); clear hHeld; refine pJ hK fun hHeld => ?_; clear hK K; refine lexHvB 4 rfl ?_ rJ; (intro K hK); (go_simp); clear hHeld; refine pJ hK fun hHeld => ?_; clear hK K; refine lexHvB 5 rfl ?_ rJ; (intro K hK); ((refine appInts_step rfl _ _ 36 rfl Tryz.underlying36 eiInt (w1.heap.size + 1) (by rfl) (HO.out.alloc _) (by rfl) (newI1 x w2 _ _ (by rfl)) (by have := HAL.out; simp; omega) (by simp; omega) ?_); (intro v3 w3 ho3 hb3 _); (have y3 := hb3.size); (have ho3b := OwnI.app (by simpa using ho3)); (have sh3 := (Ints.own ho3b (by have := HAL.out; simp; omega)).2.shape); (have hl3 : (acc ++ [x]).length = k + 1 := (by have := HAL.out; simp; omega)); (rw [hl3] at sh3); (obtain ⟨xa3, xc3, rfl⟩ := sh3); (have HO3 := hH ho3b); (have TT3 := hH (RdTo.belowB H.out T2.out (show Below w.heap.size w2 w3 from Bc bw hb3 (by omega)))); (have c3_0 : w3.cell? ⟨w.heap.size, 0, none⟩ = some (.int .i64 dim) := kC hb3); (obtain ⟨c3_1, f3_1, c3_2, f3_2, c3_3, f3_3, c3_4, f3_4, c3_5, f3_5⟩ := k5f (w.heap.size + 1) (.int .i64 0) (.slice none 0 0) (.int .i64 0) (.int .i64 0) (.bool false) hb3 aJ); (obtain ⟨c3_6, f3_6, c3_7, f3_7, c3_8, f3_8, c3_9, f3_9, c3_10, f3_10⟩ := k5f (w1.heap.size) (.int .i64 q1) (vx) (.int .i64 0) (.int .i64 0) (.bool false) hb3 aJ); (obtain ⟨l3_0, n3_0, m3_0⟩ := lnm (show w.heap.size < w3.heap.size by first | omega | (simp at y3; omega))); (obtain ⟨l3_1, n3_1, m3_1⟩ := lnm (show w.heap.size + 1 < w3.heap.size by first | omega | (simp at y3; omega))); (obtain ⟨l3_2, n3_2, m3_2⟩ := lnm (show w1.heap.size < w3.heap.size by first | omega | (simp at y3; omega))); (clear ho3 hb3 ho3b hl3)); clear hHeld; refine pJ hK fun hHeld => ?_; clear hK K; refine lTF 6 rfl hHeld ?_; refine lexHvE 7 rfl ?_ rJ rJ; (intro K hK); (go_simp); refine hK.out _ _ ?_; (clear hK K); (try clear hHeld); (try simp only [Act.put]); refine wpAnyB_done rJ ?_ _
   go_wp2_with fail
   go_roundw
   case rel =>
    refine ⟨k + 1, acc ++ [x], a2', e2', .slice xa3 (k + 1) xc3, by go_num, by omega, HN.out, by have := HAL.out; simp; omega, ?_, by simp; omega, RdTo.belowB H.out TT3.out bw, ?_⟩
    ·(repeat (first | with_reducible exact HO3.out | with_reducible refine own_set ?_ mJ | with_reducible refine own_drew ?_ | with_reducible refine World.ownsRow.alloc ?_ _ | exact HO3.out))
    ·and_intros <;> go_simp
   case measure => simp [intOf] <;> omega
  ·obtain rfl : k = D := by omega
   have hxs := H2.out.symm.trans HXS.out
   injection hxs with hx1 hx2
   injection hx2 with hx3 hx4
   subst hx1 hx3 hx4
   have hsh := (Ints.own HO.out (by have := HXL.out; omega)).2.shape
   rw [HXL.out] at hsh
   obtain ⟨xa, xc, rfl⟩ := hsh
   have i2 : ¬ (k : Int) < dim := by have := HDIM.out; omega
   have FX := hH (Fresh.own HO.out)
   clear HXS
   go_wp2_with fail
   (with_reducible refine (H3.out _ (RdTo.belowB H.out TR.out bw).rd).mono ?_); rintro e w5 ⟨rfl, r5⟩; have gg5 := r5.2; have T5 := hH (RdTo.trans (RdTo.belowB H.out TR.out bw) r5); have y5 := gg5.size; have x5 := T5.out.2.size; have c5_0 : w5.cell? ⟨w.heap.size, 0, none⟩ = some (.int .i64 dim) := gC gg5; obtain ⟨c5_1, f5_1, c5_2, f5_2, c5_3, f5_3, c5_4, f5_4, c5_5, f5_5⟩ := g5f (w.heap.size + 1) (.int .i64 0) (.slice none 0 0) (.int .i64 0) (.int .i64 0) (.bool false) gg5 aJ; obtain ⟨c5_6, f5_6, c5_7, f5_7, c5_8, f5_8, c5_9, f5_9, c5_10, f5_10⟩ := g5f (w1.heap.size) (.int .i64 q1) (.slice xa k xc) (.int .i64 0) (.int .i64 0) (.bool false) gg5 aJ; obtain ⟨l5_0, n5_0, m5_0⟩ := lnm (show w.heap.size < w5.heap.size by first | omega | (simp at y5; omega)); obtain ⟨l5_1, n5_1, m5_1⟩ := lnm (show w.heap.size + 1 < w5.heap.size by first | omega | (simp at y5; omega)); obtain ⟨l5_2, n5_2, m5_2⟩ := lnm (show w1.heap.size < w5.heap.size by first | omega | (simp at y5; omega)); have HO := hH (own_only (by (repeat (first | with_reducible exact HO.out | with_reducible refine own_set ?_ mJ | with_reducible refine own_drew ?_ | with_reducible refine World.ownsRow.alloc ?_ _ | exact HO.out))) gg5 (by omega)); clear r5 gg5
   have IX := hH (Ints.own HO.out (by have := HXL.out; omega)).2
   by_cases hq : q3 = 1
   ·subst hq
    obtain rfl := (H4.out rfl w5 (RdTo.belowB H.out T5.out bw).rd).1
    have H5 := hH (fun W hW => (H4.out rfl W hW).2)
    clear H4 H4'
    go_wp2_with fail
    (with_reducible refine (H5.out _ (RdTo.belowB H.out T5.out bw).rd).mono ?_); rintro e w6 ⟨rfl, r6⟩; have gg6 := r6.2; have T6 := hH (RdTo.trans (RdTo.belowB H.out T5.out bw) r6); have y6 := gg6.size; have x6 := T6.out.2.size; have c6_0 : w6.cell? ⟨w.heap.size, 0, none⟩ = some (.int .i64 dim) := gC gg6; obtain ⟨c6_1, f6_1, c6_2, f6_2, c6_3, f6_3, c6_4, f6_4, c6_5, f6_5⟩ := g5f (w.heap.size + 1) (.int .i64 0) (.slice none 0 0) (.int .i64 0) (.int .i64 0) (.bool false) gg6 aJ; obtain ⟨c6_6, f6_6, c6_7, f6_7, c6_8, f6_8, c6_9, f6_9, c6_10, f6_10⟩ := g5f (w1.heap.size) (.int .i64 q1) (.slice xa k xc) (.int .i64 0) (.int .i64 0) (.bool true) gg6 aJ; obtain ⟨l6_0, n6_0, m6_0⟩ := lnm (show w.heap.size < w6.heap.size by first | omega | (simp at y6; omega)); obtain ⟨l6_1, n6_1, m6_1⟩ := lnm (show w.heap.size + 1 < w6.heap.size by first | omega | (simp at y6; omega)); obtain ⟨l6_2, n6_2, m6_2⟩ := lnm (show w1.heap.size < w6.heap.size by first | omega | (simp at y6; omega)); have IX := hH (Ints.only_again IX.out (by (repeat (first | with_reducible exact IX.out | with_reducible refine Ints.setC FX.out ?_ | with_reducible refine Ints.alloc ?_ _ | with_reducible refine Ints.drewN ?_ _ | with_reducible refine Ints.drew ?_))) FX.out (by omega) gg6); clear r6 gg6
    go_wp2_with fail
    (with_reducible refine (checkedN_val (R := R) (v := v) (l := l) (a := a4) (e0 := e4) (RdTo.belowB H.out T6.out bw).rd (q1 : Int) P Q dim true xa k xc xs ?_ w.heap.size (by go_simp) E HE.out).mono ?_)
    ·(repeat (first | with_reducible exact IX.out | with_reducible refine Ints.setC FX.out ?_ | with_reducible refine Ints.alloc ?_ _ | with_reducible refine Ints.drewN ?_ _ | with_reducible refine Ints.drew ?_))
    rintro e w8 ⟨val, rfl, z1, z2, r8⟩
    have IX8 := hH (Ints.only_again IX.out (by (repeat (first | with_reducible exact IX.out | with_reducible refine Ints.setC FX.out ?_ | with_reducible refine Ints.alloc ?_ _ | with_reducible refine Ints.drewN ?_ _ | with_reducible refine Ints.drew ?_))) FX.out (by omega) r8.2)
    have T8 := hH (RdTo.trans (RdTo.belowB H.out T6.out bw) r8)
    have gg8 := r8.2
    have y8 := gg8.size
    have Z1 := hH z1; have Z2 := hH z2
    obtain ⟨d0, f0, d1, f1, d2, f2, d3, f3, d4, f4⟩ := g5f (w.heap.size + 1) (.int .i64 0) (.slice none 0 0) (.int .i64 0) (.int .i64 0) (.bool false) gg8 aJ mJ (by omega)
    clear r8 gg8 z1 z2
    by_cases hE : E = 0
    ·obtain rfl := Z1.out hE
     go_wp2_with fail
     exact bodyPost_ret (v := .agg #[.int .i64 q1, .slice xa k xc, .int .i64 P, .int .i64 Q, .bool true]) (by simp [results, Tryz.results63, go_sem, *]) rfl (by rw [← HT.out, if_pos hE]; exact ⟨_, rfl, by refine Ints.stores5 IX8.out (FX.out.mono (show w.heap.size + 2 ≤ _ by omega)) (by omega), RdTo.belowB H.out T8.out bw, FX.out.mono (by omega)⟩)
    ·obtain rfl := Z2.out hE
     go_wp2_with fail
     exact bodyPost_ret (v := .agg #[.int .i64 0, .slice none 0 0, .int .i64 0, .int .i64 0, .bool false]) (by simp [results, Tryz.results63, go_sem, *]) rfl (by rw [← HT.out, if_neg hE]; exact GotN.zero (RdTo.belowB H.out T8.out bw))
   ·have hx := H4'.out hq
    injection hx with hx1 hx2
    injection hx1 with hx3 hx4
    injection hx4 with hx5 hx6
    injection hx2 with hx7 hx8
    subst hx3 hx5 hx6 hx7 hx8
    obtain rfl : q3 = 0 := by omega
    clear H4 H4' hq
    go_wp2_with fail
    (with_reducible refine (checkedN_val (R := R) (v := v) (l := l) (a := _) (e0 := _) (RdTo.belowB H.out T5.out bw).rd (q1 : Int) 0 0 dim false xa k xc xs ?_ w.heap.size (by go_simp) E HE.out).mono ?_)
    ·(repeat (first | with_reducible exact IX.out | with_reducible refine Ints.setC FX.out ?_ | with_reducible refine Ints.alloc ?_ _ | with_reducible refine Ints.drewN ?_ _ | with_reducible refine Ints.drew ?_))
    rintro e w8 ⟨val, rfl, z1, z2, r8⟩
    have IX8 := hH (Ints.only_again IX.out (by (repeat (first | with_reducible exact IX.out | with_reducible refine Ints.setC FX.out ?_ | with_reducible refine Ints.alloc ?_ _ | with_reducible refine Ints.drewN ?_ _ | with_reducible refine Ints.drew ?_))) FX.out (by omega) r8.2)
    have T8 := hH (RdTo.trans (RdTo.belowB H.out T5.out bw) r8)
    have gg8 := r8.2
    have y8 := gg8.size
    have Z1 := hH z1; have Z2 := hH z2
    obtain ⟨d0, f0, d1, f1, d2, f2, d3, f3, d4, f4⟩ := g5f (w.heap.size + 1) (.int .i64 0) (.slice none 0 0) (.int .i64 0) (.int .i64 0) (.bool false) gg8 aJ mJ (by omega)
    clear r8 gg8 z1 z2
    by_cases hE : E = 0
    ·obtain rfl := Z1.out hE
     go_wp2_with fail
     exact bodyPost_ret (v := .agg #[.int .i64 q1, .slice xa k xc, .int .i64 0, .int .i64 0, .bool false]) (by simp [results, Tryz.results63, go_sem, *]) rfl (by rw [← HT.out, if_pos hE]; exact ⟨_, rfl, by refine Ints.stores5 IX8.out (FX.out.mono (show w.heap.size + 2 ≤ _ by omega)) (by omega), RdTo.belowB H.out T8.out bw, FX.out.mono (by omega)⟩)
    ·obtain rfl := Z2.out hE
     go_wp2_with fail
     exact bodyPost_ret (v := .agg #[.int .i64 0, .slice none 0 0, .int .i64 0, .int .i64 0, .bool false]) (by simp [results, Tryz.results63, go_sem, *]) rfl (by rw [← HT.out, if_neg hE]; exact GotN.zero (RdTo.belowB H.out T8.out bw))

theorem getSeen_any {w : World} {R : Nat} {v : Value} {l : List Int} {a : Nat} {e0 : Int} (h : Rd w R v l a e0) (hb : AllB l) (ha : a ≤ l.length) (hl : l.length ≤ 100000) (dim : Int) :
  Calls Tryz.prog 63 #[.pointer (some ⟨R, 0, none⟩), .int .i64 dim] w fun e w' => GotN w R v l (getSeen l dim a e0) e w' := by
 by_cases hd : 1 ≤ dim ∧ dim ≤ 8
 ·obtain ⟨D, rfl⟩ : ∃ D : Nat, dim = (D : Int) := ⟨dim.toNat, by omega⟩
  exact getSeen_ok h hb ha hl D (by omega) _ rfl
 ·exact getSeen_bad h dim hd
end Go.Proofs.YtgobbecpnjelmaaGreat
