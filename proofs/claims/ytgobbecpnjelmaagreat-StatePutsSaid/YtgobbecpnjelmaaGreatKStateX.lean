/-
  StateX: Walk of state.Get: the bytes of a right state are read as it was.
-/
import Derived.Test.YtgobbecpnjelmaaGreatJ5a
import Derived.Test.YtgobbecpnjelmaaGreatJ4a
import Derived.Test.YtgobbecpnjelmaaGreatKStateT
namespace Go.Proofs.YtgobbecpnjelmaaGreat
open Go.RowKit

theorem winBy_cons (s : StP) (t : SeenT) (l : List SeenT) : winBy s (t :: l) = seenTW t s.c0 ++ winBy s l := rfl

theorem alertsBy_cons (t : AlertT) (l : List AlertT) : alertsBy (t :: l) = alertBytes t ++ alertsBy l := rfl

theorem drop_some {α : Type} {l : List α} {k : Nat} {t : α} (h : l[k]? = some t) : l.drop k = t :: l.drop (k + 1) := by
 obtain ⟨hlt, e⟩ := List.getElem?_eq_some_iff.1 h
 rw [List.drop_eq_getElem_cons hlt, e]

theorem take_next {α : Type} {l : List α} {k : Nat} {t : α} (h : l[k]? = some t) : l.take (k + 1) = l.take k ++ [t] := by
 rw [List.take_add_one, h]
 rfl

/-- What stands while a state is read: the reader, the result's cell, the state's cell. -/
theorem row_set {w : World} {b : Nat} {T : TypeId} {cs ds : Array Value} {o : Nat} {v : Value} (h : RowAt w b T cs) (hd : cs.setIfInBounds o v = ds) : RowAt (w.setCell ⟨b, o, none⟩ v) b T ds := hd ▸ h.set o v

set_option maxRecDepth 100000 in
set_option maxHeartbeats 32000000 in
theorem sget_put (c0 c1 c2 c3 c4 c5 c6 c7 c8 c9 c10 : Int) (N L S : Nat) (win : List SeenT) (f : List (TreeP × Int)) (al : List AlertT) (vb : Value) (w0 : World) (hB : stateB ⟨c0, c1, c2, c3, c4, c5, c6, c7, c8, c9, c10, N, L, S, win, f, al⟩ = true) (hv : Ints .u8 w0 vb (putSt ⟨c0, c1, c2, c3, c4, c5, c6, c7, c8, c9, c10, N, L, S, win, f, al⟩)) :
  Calls Tryz.prog 23 #[vb] w0 fun e w' => ∃ wv fv av, e = .returned (.tuple #[.agg #[.int .i64 c0, .int .i64 c1, .int .i64 c2, .int .i64 c3, .int .i64 c4, .int .i64 c5, .int .i64 c6, .int .i64 c7, .int .i64 c8, .int .i64 c9, .int .i64 c10, .int .i64 (N : Int), .int .i64 (L : Int), .int .i64 (S : Int), wv, fv, av], .int .i64 0]) ∧ SeensR w' wv win ∧ GrownsR w' fv f ∧ AlertsR w' av al ∧ Below w0.heap.size w0 w' := by
 have hRP := stateB_is hB
 have hw7 : Ok64 c7 := by obtain ⟨_, _, _, _, _, _, _, h7, _⟩ := (confB11_iff c0 c1 c2 c3 c4 c5 c6 c7 c8 c9 c10).1 hRP.conf; unfold Ok64; omega
 have hlen : (putSt ⟨c0, c1, c2, c3, c4, c5, c6, c7, c8, c9, c10, N, L, S, win, f, al⟩).length ≤ 100000 := Nat.le_trans (putSt_len hRP) (by omega)
 have hall := putSt_all ⟨c0, c1, c2, c3, c4, c5, c6, c7, c8, c9, c10, N, L, S, win, f, al⟩
 have hW1 := hRP.win
 have hA1 := hRP.al
 have hF1 := hRP.isF
 have hwL := hRP.winL
 have hwn2 : win.length ≤ 256 := by have := hRP.winL; have := (confB_iff _ hRP.conf).2.1; dsimp only at *; omega
 have han2 : al.length ≤ 64 := by have := hRP.alL; have := (confB_iff _ hRP.conf).2.2.2.2; dsimp only at *; omega
 obtain ⟨n1, n2⟩ := hRP.count
 obtain ⟨l1, l2⟩ := hRP.last
 obtain ⟨s1, s2⟩ := hRP.seq
 have hCB : confB11 c0 c1 c2 c3 c4 c5 c6 c7 c8 c9 c10 = true := hRP.conf
 have hr0 : Rest (putSt ⟨c0, c1, c2, c3, c4, c5, c6, c7, c8, c9, c10, N, L, S, win, f, al⟩) 0 (natsB [c0, c1, c2, c3, c4, c5, c6, c7, c8, c9, c10] ++ (putsU ((N : Int)).toNat ++ (putsU ((L : Int)).toNat ++ (putsU ((S : Int)).toNat ++ (winBy ⟨c0, c1, c2, c3, c4, c5, c6, c7, c8, c9, c10, N, L, S, win, f, al⟩ win ++ (forestBy f ++ (putsU ((al.length : Nat) : Int).toNat ++ (alertsBy al ++ [])))))))) := by
  have h := Rest.all (putSt ⟨c0, c1, c2, c3, c4, c5, c6, c7, c8, c9, c10, N, L, S, win, f, al⟩)
  rw [List.append_nil]
  exact h
 obtain ⟨l, hl⟩ : ∃ l, putSt ⟨c0, c1, c2, c3, c4, c5, c6, c7, c8, c9, c10, N, L, S, win, f, al⟩ = l := ⟨_, rfl⟩
 dsimp only at hW1 hA1 hF1 hwL n1 n2 l1 l2 s1 s2
 rw [hl] at hv hlen hall hr0
 have hr1 := hr0.next
 obtain ⟨p1, hp1⟩ : ∃ p, 0 + (natsB [c0, c1, c2, c3, c4, c5, c6, c7, c8, c9, c10]).length = p := ⟨_, rfl⟩
 rw [hp1] at hr1
 obtain ⟨g1, hr2⟩ := hr1.n N 1099511627776 (by omega) n2
 obtain ⟨p2, hp2⟩ : ∃ p, p1 + (putsU N).length = p := ⟨_, rfl⟩
 rw [hp2] at g1 hr2
 obtain ⟨g2, hr3⟩ := hr2.n L 1099511627776 (by omega) l2
 obtain ⟨p3, hp3⟩ : ∃ p, p2 + (putsU L).length = p := ⟨_, rfl⟩
 rw [hp3] at g2 hr3
 obtain ⟨g3, hr4⟩ := hr3.n S 1099511627776 (by omega) s2
 obtain ⟨p4, hp4⟩ : ∃ p, p3 + (putsU S).length = p := ⟨_, rfl⟩
 rw [hp4] at g3 hr4
 obtain ⟨Y5, hY5⟩ : ∃ Y, putsU ((al.length : Nat) : Int).toNat ++ (alertsBy al ++ []) = Y := ⟨_, rfl⟩
 rw [hY5] at hr4
 have HC1 := hH (fun W R v (hW : Rd W R v l 0 0) => hp1 ▸ getConf_put c0 c1 c2 c3 c4 c5 c6 c7 c8 c9 c10 hCB hW hall hlen hr0)
 have HN1 := hH (fun W R v (hW : Rd W R v l p1 0) => rdN_call hall hr1.le hlen 1099511627776 (by decide) _ _ _ g1 hW)
 have HN2 := hH (fun W R v (hW : Rd W R v l p2 0) => rdN_call hall hr2.le hlen 1099511627776 (by decide) _ _ _ g2 hW)
 have HN3 := hH (fun W R v (hW : Rd W R v l p3 0) => rdN_call hall hr3.le hlen 1099511627776 (by decide) _ _ _ g3 hW)
 have HSE := hH (fun W R v a (t : SeenT) y (hW : Rd W R v l a 0) (h : Rest l a (seenTW t c0 ++ y)) (ht : seenTB t c0 = true) => getSeen_put hW hall hlen h ht)
 have HFO := hH (fun W R v a y (hW : Rd W R v l a 0) (h : Rest l a (forestBy f ++ y)) => getForest_put hW hall hlen h hF1)
 have HAN := hH (fun W R v a y (hW : Rd W R v l a 0) (h : Rest l a (putsU ((al.length : Nat) : Int).toNat ++ y)) => rdN_call hall h.le hlen 64 (by decide) _ _ _ (h.n al.length 64 (by omega) (by omega)).1 hW)
 have HAL := hH (fun W R v a q i p1 q1 p2 q2 y (hW : Rd W R v l a 0) (h : Rest l a (alertBytes (q, i, (p1, q1), (p2, q2)) ++ y)) (ht : alertB (q, i, (p1, q1), (p2, q2)) = true) => getAlert_put q i p1 q1 p2 q2 hW hall hlen h ht)
 have HEN := hH (fun W R v a (hW : Rd W R v l a 0) (h : Rest l a []) => end_same hW h.end hlen)
 have HFR := hH (fun W (hW : Ints .u8 W vb l) => from_any vb l W hW hlen)
 have HRI := hH (fun W wa fa aa wc fc ac (h1 : SeensR W (.slice wa win.length wc) win) (h2 : GrownsR W (.slice fa f.length fc) f) (h3 : AlertsR W (.slice aa al.length ac) al) => hB ▸ sright28_any c0 c1 c2 c3 c4 c5 c6 c7 c8 c9 c10 N L S wa fa aa win.length wc f.length fc al.length ac win f al W hw7 h1 rfl h2 rfl h3 rfl)
 have HV := hH hv
 have HW1 := hH hW1
 have HA1 := hH hA1
 have HR4 := hH hr4
 have HY5 := hH hY5
 have hmin : min (N : Int) c1 = (win.length : Int) := hwL.symm
 obtain ⟨wn, hwn⟩ : ∃ n, win.length = n := ⟨_, rfl⟩
 obtain ⟨an, han⟩ : ∃ n, al.length = n := ⟨_, rfl⟩
 rw [hwn] at hmin hwn2 HRI
 rw [han] at han2 HAN HRI HY5
 have HWN := hH hwn
 have HANN := hH han
 clear hRP hw7 hlen hall hW1 hA1 hF1 hwL hCB hr0 hl hr1 hr2 hr3 hr4 g1 g2 g3 hp1 hp2 hp3 hp4 hY5 hB hv hwn han
 go_enter Tryz.func23, Tryz.ntmps23
 go_wp2_with fail
 (with_reducible refine (HFR.out _ (HV.out.below bw)).mono ?_)
 rintro e w ⟨R, v, rfl, hRz, hrd, b1⟩
 have H := hH hrd
 have hR := hrd.lt
 have A0 := hH ((rowz_new (W := w0) (T := 28) (cs := #[.int .i64 0, .int .i64 0, .int .i64 0, .int .i64 0, .int .i64 0, .int .i64 0, .int .i64 0, .int .i64 0, .int .i64 0, .int .i64 0, .int .i64 0, .int .i64 0, .int .i64 0, .int .i64 0, .slice none 0 0, .slice none 0 0, .slice none 0 0]) rfl).keep b1 mJ)
 have hPR : w0.heap.size < R := by have := hRz; simp at this; omega
 have hne0 : (some R : Option Nat) ≠ some w0.heap.size := by intro e; injection e with e; omega
 have hw0.heap.size : w0.heap.size < w.heap.size := by omega
 have BW := hH (show Below w0.heap.size w0 w from below_tr bw (b1.mono (by simp)))
 have T0 := hH (RdTo.refl hrd)
 clear hrd b1 hRz
 go_wp2_with fail
 (with_reducible refine (HC1.out _ R v (H.out.below bw)).mono ?_)
 rintro e w1 ⟨rfl, r1⟩
 have T1 := hH (RdTo.trans (RdTo.belowB H.out T0.out bw) r1)
 have y1 := r1.2.size
 have A1 := hH (RowAt.only (show RowAt _ w0.heap.size 28 #[.int .i64 0, .int .i64 0, .int .i64 0, .int .i64 0, .int .i64 0, .int .i64 0, .int .i64 0, .int .i64 0, .int .i64 0, .int .i64 0, .int .i64 0, .int .i64 0, .int .i64 0, .int .i64 0, .slice none 0 0, .slice none 0 0, .slice none 0 0] from A0.out.keep (B := w.heap.size) bw hw0.heap.size) r1.2 hne0)
 clear r1
 dsimp only
 have hKK := ‹∀ (a : Act) (w : World), wpList _ _ _ _ a w → _›
 refine hKK _ _ ?_
 clear hKK
 (try simp only [Act.put, List.setIfInBounds_toArray, List.set_cons_zero, List.set_cons_succ])
 refine buildArm rfl 28 _ rfl [(0, .agg #[.int .i64 c0, .int .i64 c1, .int .i64 c2, .int .i64 c3, .int .i64 c4, .int .i64 c5, .int .i64 c6, .int .i64 c7, .int .i64 c8, .int .i64 c9, .int .i64 c10])] rJ #[.int .i64 c0, .int .i64 c1, .int .i64 c2, .int .i64 c3, .int .i64 c4, .int .i64 c5, .int .i64 c6, .int .i64 c7, .int .i64 c8, .int .i64 c9, .int .i64 c10, .int .i64 0, .int .i64 0, .int .i64 0, .slice none 0 0, .slice none 0 0, .slice none 0 0] rJ ?_
 (try simp only [Act.put, List.setIfInBounds_toArray, List.set_cons_zero, List.set_cons_succ])
 refine wpList_plain rfl fun K hK => ?_
 go_simp
 refine hK _ _ ?_
 clear hK K
 (try simp only [Act.put, List.setIfInBounds_toArray, List.set_cons_zero, List.set_cons_succ])
 refine storeRow (zs := #[.int .i64 0, .int .i64 0, .int .i64 0, .int .i64 0, .int .i64 0, .int .i64 0, .int .i64 0, .int .i64 0, .int .i64 0, .int .i64 0, .int .i64 0, .int .i64 0, .int .i64 0, .int .i64 0, .slice none 0 0, .slice none 0 0, .slice none 0 0]) (cells := #[.int .i64 c0, .int .i64 c1, .int .i64 c2, .int .i64 c3, .int .i64 c4, .int .i64 c5, .int .i64 c6, .int .i64 c7, .int .i64 c8, .int .i64 c9, .int .i64 c10, .int .i64 0, .int .i64 0, .int .i64 0, .slice none 0 0, .slice none 0 0, .slice none 0 0]) rfl 28 _ _ rfl (rowz_new (b := w1.heap.size) rfl) (by rfl) (by rfl) rfl rJ rJ ?_
 intro w2 r2 g2
 have E2 := hH r2
 have b12 := below_only (w0 := w1) (show Below w1.heap.size w1 _ from bw) g2 (Nat.le_refl _) (Nat.le_refl _)
 have T2 := hH (RdTo.belowB H.out T1.out (b12.mono y1))
 have A2 := hH (A1.out.keep (b12.mono y1) hw0.heap.size)
 have y2 : w1.heap.size < w2.heap.size := r2.lt
 have hne5 : (some R : Option Nat) ≠ some w1.heap.size := by intro e; injection e with e; omega
 clear r2 g2 b12
 (try simp only [Act.put])
 refine wpList_nil ?_
 go_wp2_with fail
 (with_reducible refine (HN1.out _ R v (T2.out.now.below bw)).mono ?_)
 rintro e w3 ⟨rfl, r3⟩
 have T3 := hH (RdTo.trans (RdTo.belowB H.out T2.out bw) r3)
 have y3 := r3.2.size
 have A3 := hH (RowAt.only (show RowAt _ w0.heap.size 28 #[.int .i64 0, .int .i64 0, .int .i64 0, .int .i64 0, .int .i64 0, .int .i64 0, .int .i64 0, .int .i64 0, .int .i64 0, .int .i64 0, .int .i64 0, .int .i64 0, .int .i64 0, .int .i64 0, .slice none 0 0, .slice none 0 0, .slice none 0 0] from A2.out.keep (B := w.heap.size) bw hw0.heap.size) r3.2 hne0)
 have E3 := hH (E2.out.only r3.2 hne5)
 clear r3
 go_wp2_with fail
 (with_reducible refine (HN2.out _ R v (T3.out.now.below bw)).mono ?_)
 rintro e w4 ⟨rfl, r4⟩
 have T4 := hH (RdTo.trans (RdTo.belowB H.out T3.out bw) r4)
 have y4 := r4.2.size
 have A4 := hH (RowAt.only (show RowAt _ w0.heap.size 28 #[.int .i64 0, .int .i64 0, .int .i64 0, .int .i64 0, .int .i64 0, .int .i64 0, .int .i64 0, .int .i64 0, .int .i64 0, .int .i64 0, .int .i64 0, .int .i64 0, .int .i64 0, .int .i64 0, .slice none 0 0, .slice none 0 0, .slice none 0 0] from A3.out.keep (B := w.heap.size) bw hw0.heap.size) r4.2 hne0)
 have E4 := hH (E3.out.only r4.2 hne5)
 clear r4
 go_wp2_with fail
 (with_reducible refine (HN3.out _ R v (T4.out.now.below bw)).mono ?_)
 rintro e w5 ⟨rfl, r5⟩
 have T5 := hH (RdTo.trans (RdTo.belowB H.out T4.out bw) r5)
 have y5 := r5.2.size
 have A5 := hH (RowAt.only (show RowAt _ w0.heap.size 28 #[.int .i64 0, .int .i64 0, .int .i64 0, .int .i64 0, .int .i64 0, .int .i64 0, .int .i64 0, .int .i64 0, .int .i64 0, .int .i64 0, .int .i64 0, .int .i64 0, .int .i64 0, .int .i64 0, .slice none 0 0, .slice none 0 0, .slice none 0 0] from A4.out.keep (B := w.heap.size) bw hw0.heap.size) r5.2 hne0)
 have E5 := hH (E4.out.only r5.2 hne5)
 clear r5
 have k1 : w5.cell? ⟨w1.heap.size, 1, none⟩ = some (.int .i64 c1) := (E5.out.cell 1).trans rfl
 have k11 : w5.cell? ⟨w1.heap.size, 11, none⟩ = some (.int .i64 0) := (E5.out.cell 11).trans rfl
 have k12 : w5.cell? ⟨w1.heap.size, 12, none⟩ = some (.int .i64 0) := (E5.out.cell 12).trans rfl
 have k13 : w5.cell? ⟨w1.heap.size, 13, none⟩ = some (.int .i64 0) := (E5.out.cell 13).trans rfl
 have f11 := E5.out.frozen 11
 have f12 := E5.out.frozen 12
 have f13 := E5.out.frozen 13
 have z5 : w1.heap.size < w5.heap.size := E5.out.lt
 go_wp2_with fail
 go_loopw [6] (fun nv wr => ∃ (m p : Nat) (z : Int) (wv : Value) (ps : List SeV), nv = .int .i64 z ∧ z = (m : Int) ∧ ps.length + m = wn ∧ ps.map (·.1) = win.take ps.length ∧ Rest l p (winBy ⟨c0, c1, c2, c3, c4, c5, c6, c7, c8, c9, c10, N, L, S, win, f, al⟩ (win.drop ps.length) ++ (forestBy f ++ Y5)) ∧ RdTo w R v l wr p 0 ∧ RowAt wr w0.heap.size 28 #[.int .i64 0, .int .i64 0, .int .i64 0, .int .i64 0, .int .i64 0, .int .i64 0, .int .i64 0, .int .i64 0, .int .i64 0, .int .i64 0, .int .i64 0, .int .i64 0, .int .i64 0, .int .i64 0, .slice none 0 0, .slice none 0 0, .slice none 0 0] ∧ RowAt wr w1.heap.size 28 #[.int .i64 c0, .int .i64 c1, .int .i64 c2, .int .i64 c3, .int .i64 c4, .int .i64 c5, .int .i64 c6, .int .i64 c7, .int .i64 c8, .int .i64 c9, .int .i64 c10, .int .i64 (N : Int), .int .i64 (L : Int), .int .i64 (S : Int), wv, .slice none 0 0, .slice none 0 0] ∧ SeenSt w2.heap.size wr wv ps) (fun nv _ => (intOf nv).toNat)
 case atStart =>
  refine ⟨wn, p4, wn, .slice none 0 0, [], rfl, rfl, by simp, rfl, HR4.out, RdTo.belowB H.out T5.out bw, A5.out.keep (B := w.heap.size) bw hw0.heap.size, ?_, ?_⟩
  ·exact row_set (row_set (row_set E5.out (ds := #[.int .i64 c0, .int .i64 c1, .int .i64 c2, .int .i64 c3, .int .i64 c4, .int .i64 c5, .int .i64 c6, .int .i64 c7, .int .i64 c8, .int .i64 c9, .int .i64 c10, .int .i64 (N : Int), .int .i64 0, .int .i64 0, .slice none 0 0, .slice none 0 0, .slice none 0 0]) rfl) (ds := #[.int .i64 c0, .int .i64 c1, .int .i64 c2, .int .i64 c3, .int .i64 c4, .int .i64 c5, .int .i64 c6, .int .i64 c7, .int .i64 c8, .int .i64 c9, .int .i64 c10, .int .i64 (N : Int), .int .i64 (L : Int), .int .i64 0, .slice none 0 0, .slice none 0 0, .slice none 0 0]) rfl) rfl
  ·exact (((SeenSt.nil w2.heap.size w5 (by omega)).set (by omega)).set (by omega)).set (by omega)
 case round =>
  obtain ⟨m, p, z, wv, ps, rfl, hz, hlen, hmap, hrest, hT, hA, hE, hS⟩ := hrel
  rename World => wr
  have HT := hH hT
  have HA := hH hA
  have HE := hH hE
  have HS := hH hS
  have HM := hH hmap
  have HRS := hH hrest
  have HLE := hH hlen
  have HZ := hH hz
  have zr := hT.2.size
  have zE := hE.lt
  have hBr := hS.hB
  obtain ⟨fa, fc, rfl⟩ := own_shapeN hS.ou
  cases m with
  | zero =>
   have hz0 : z = 0 := by omega
   have hpw : ps.length = wn := by omega
   rw [hpw, List.take_of_length_le (by rw [HWN.out]; exact Nat.le_refl _)] at hmap
   have hrest2 := hrest
   rw [hpw, List.drop_eq_nil_of_le (by rw [HWN.out]; exact Nat.le_refl _)] at hrest2
   have hwf := hS.fin (by omega)
   rw [hmap, hpw] at hwf
   rw [hpw] at HE
   have WF := hH hwf
   have HR5 := hH (show Rest l p (forestBy f ++ Y5) from hrest2)
   have T6 := HT
   have A6 := HA
   have E6 := HE
   subst hz0
   clear HT HA HE HS HM HRS HLE HZ hmap hrest hrest2 hlen hz hT hA hE hS hwf hpw
   rename World => w6
   go_wp2_with fail
   (with_reducible refine (HFO.out _ R v p Y5 (T6.out.now.below bw) HR5.out).mono ?_)
   rintro e w7 ⟨fv, rfl, r7, gf7⟩
   have T7 := hH (RdTo.trans (RdTo.belowB H.out T6.out bw) r7)
   have y7 : w6.heap.size ≤ w7.heap.size := r7.2.size
   have A7 := hH (A6.out.only r7.2 hne0)
   have E7 := hH (E6.out.only r7.2 hne5)
   have W7 := hH (WF.out.only (show R < w2.heap.size by omega) r7.2)
   have F7 := hH (gf7.low (show w2.heap.size ≤ w6.heap.size by omega))
   obtain ⟨f7a, f7c, rfl, -⟩ := gf7.now
   obtain ⟨fn, hfn⟩ : ∃ n, f.length = n := ⟨_, rfl⟩
   rw [hfn] at F7 HRI ⊢
   have k15 : w7.cell? ⟨w1.heap.size, 15, none⟩ = some (.slice none 0 0) := (E7.out.cell 15).trans rfl
   have f15 := E7.out.frozen 15
   have z7 := E7.out.lt
   have HNF := hH HR5.out.next
   rw [← HY5.out] at HNF
   obtain ⟨p7, hp7⟩ : ∃ q, p + (forestBy f).length = q := ⟨_, rfl⟩
   rw [hp7] at HNF T7
   clear r7 gf7 hfn hp7
   go_wp2_with fail
   (with_reducible refine (HAN.out _ R v p7 _ ((RdTo.belowB H.out T7.out bw).now) HNF.out).mono ?_)
   rintro e w8 ⟨rfl, r8⟩
   have T8 := hH (RdTo.trans (RdTo.belowB H.out T7.out bw) r8)
   have y8 : w7.heap.size ≤ w8.heap.size := by have := r8.2.size; simp at this; omega
   have A8 := hH ((A7.out.keep (B := w.heap.size) bw hw0.heap.size).only r8.2 hne0)
   have E8 := hH ((row_set E7.out (ds := #[.int .i64 c0, .int .i64 c1, .int .i64 c2, .int .i64 c3, .int .i64 c4, .int .i64 c5, .int .i64 c6, .int .i64 c7, .int .i64 c8, .int .i64 c9, .int .i64 c10, .int .i64 (N : Int), .int .i64 (L : Int), .int .i64 (S : Int), .slice fa wn fc, .slice f7a fn f7c, .slice none 0 0]) rfl).only r8.2 hne5)
   have W8 := hH ((W7.out.set (show w1.heap.size < w2.heap.size by omega)).only (show R < w2.heap.size by omega) r8.2)
   have F8 := hH ((F7.out.set (.inl (show w1.heap.size < w2.heap.size by omega))).only (show R < w2.heap.size by omega) r8.2)
   have HN8 := hH HNF.out.next
   clear r8
   go_wp2_with fail
   obtain ⟨p8, hp8⟩ : ∃ q, p7 + (putsU ((an : Nat) : Int).toNat).length = q := ⟨_, rfl⟩
   have T8' := hH (show RdTo w R v l w8 p8 0 from by have := T8.out; rw [show (putsU an).length = (putsU ((an : Nat) : Int).toNat).length from rfl, hp8] at this; exact this)
   rw [hp8] at HN8
   clear hp8 T8
   go_loopw [7] (fun nv wr => ∃ (m k p : Nat) (z : Int) (av : Value), nv = .int .i64 z ∧ z = (m : Int) ∧ k + m = an ∧ Rest l p (alertsBy (al.drop k) ++ []) ∧ RdTo w R v l wr p 0 ∧ RowAt wr w0.heap.size 28 #[.int .i64 0, .int .i64 0, .int .i64 0, .int .i64 0, .int .i64 0, .int .i64 0, .int .i64 0, .int .i64 0, .int .i64 0, .int .i64 0, .int .i64 0, .int .i64 0, .int .i64 0, .int .i64 0, .slice none 0 0, .slice none 0 0, .slice none 0 0] ∧ RowAt wr w1.heap.size 28 #[.int .i64 c0, .int .i64 c1, .int .i64 c2, .int .i64 c3, .int .i64 c4, .int .i64 c5, .int .i64 c6, .int .i64 c7, .int .i64 c8, .int .i64 c9, .int .i64 c10, .int .i64 (N : Int), .int .i64 (L : Int), .int .i64 (S : Int), .slice fa wn fc, .slice f7a fn f7c, av] ∧ wr.ownsRow w8.heap.size 71 6 av k ((al.take k).flatMap rowAl) ∧ w8.heap.size ≤ wr.heap.size ∧ (∀ b, w2.heap.size ≤ b → b < w8.heap.size → wr.heap[b]? = w8.heap[b]?)) (fun nv _ => (intOf nv).toNat)
   case atStart => exact ⟨an, 0, p8, an, .slice none 0 0, rfl, rfl, by simp, HN8.out, T8'.out, A8.out, E8.out, World.ownsRow_nil _ _ _ _, Nat.le_refl _, fun _ _ _ => rfl⟩
   case round =>
    obtain ⟨m, k, p, z, av, rfl, hz, hlen, hrest, hT, hA, hE, hO, hsz, hkp⟩ := hrel
    rename World => wr
    have HT := hH hT
    have HA := hH hA
    have HE := hH hE
    have HO := hH hO
    have HRS := hH hrest
    have HLE := hH hlen
    have HZ := hH hz
    have HK := hH hkp
    have zr := hT.2.size
    have zE := hE.lt
    obtain ⟨aa, acp, rfl⟩ := own_shapeN hO
    cases m with
    | zero =>
     have hz0 : z = 0 := by omega
     obtain rfl : an = k := by omega
     have hrest2 := hrest
     rw [List.drop_eq_nil_of_le (by rw [HANN.out]; exact Nat.le_refl _)] at hrest2
     rw [List.take_of_length_le (by rw [HANN.out]; exact Nat.le_refl _)] at hO
     have AF := hH (show AlertsF w8.heap.size wr _ al from fun W hW hz => own_alerts (own_at hO fun b hb => hW b (hO.lt b hb).1 (hO.lt b hb).2) HANN.out.symm (by omega))
     have WF9 := hH (W8.out.keep hkp hsz)
     have FF9 := hH (F8.out.keep hkp hsz)
     have HRE := hH (show Rest l p [] from hrest2)
     have T9 := HT
     have A9 := HA
     have E9 := HE
     subst hz0
     clear HT HA HE HO HRS HLE HZ HK hrest hrest2 hlen hz hT hA hE hO hkp W8 F8
     rename World => w9
     go_wp2_with fail
     (with_reducible refine (HEN.out _ R v p (T9.out.now.below bw) HRE.out).mono ?_)
     rintro e w10 ⟨rfl, d, hd⟩
     have b10 : Below w9.heap.size w9 w10 := by rw [hd]; exact below_drewN bw d
     have T10 := hH (RdTo.belowB H.out T9.out (b10.mono zr))
     have A10 := hH (A9.out.keep b10 (by omega))
     have E10 := hH (E9.out.keep b10 (by omega))
     have W10 := hH (WF9.out.below b10)
     have F10 := hH (FF9.out.below b10)
     have L10 := hH (AF.out.below b10)
     have y10 := b10.size
     clear b10 hd
     go_wp2_with fail
     refine (err_any T10.out.now).mono ?_
     rintro e3 w3' ⟨rfl, rfl⟩
     go_upto_region 17 with fail
     refine wp_region_lit ?_
     refine loadRow rfl 28 _ rfl E10.out (by rfl) Tryz.underlying28 rfl rJ ?_
     (try simp only [Act.put, List.setIfInBounds_toArray, List.set_cons_zero, List.set_cons_succ])
     go_wp2_with fail
     (with_reducible refine (dupC (HRI.out _ _ _ _ _ _ _ W10.out.now F10.out.now L10.out.now)).mono ?_)
     rintro e w11 ⟨rfl, b11, _⟩
     have T11 := hH (RdTo.belowB H.out T10.out (b11.mono (by omega)))
     have A11 := hH (A10.out.keep b11 (by omega))
     have E11 := hH (E10.out.keep b11 (by omega))
     have W11 := hH (W10.out.below b11)
     have F11 := hH (F10.out.below b11)
     have L11 := hH (L10.out.below b11)
     have y11 := b11.size
     clear b11
     go_upto_region 19 with fail
     refine wp_region_lit ?_
     refine loadRow rfl 28 _ rfl E11.out (by rfl) Tryz.underlying28 rfl rJ ?_
     (try simp only [Act.put, List.setIfInBounds_toArray, List.set_cons_zero, List.set_cons_succ])
     refine storeRow (zs := #[.int .i64 0, .int .i64 0, .int .i64 0, .int .i64 0, .int .i64 0, .int .i64 0, .int .i64 0, .int .i64 0, .int .i64 0, .int .i64 0, .int .i64 0, .int .i64 0, .int .i64 0, .int .i64 0, .slice none 0 0, .slice none 0 0, .slice none 0 0]) (cells := #[.int .i64 c0, .int .i64 c1, .int .i64 c2, .int .i64 c3, .int .i64 c4, .int .i64 c5, .int .i64 c6, .int .i64 c7, .int .i64 c8, .int .i64 c9, .int .i64 c10, .int .i64 (N : Int), .int .i64 (L : Int), .int .i64 (S : Int), .slice fa wn fc, .slice f7a fn f7c, .slice aa an acp]) rfl 28 _ _ rfl A11.out (by rfl) (by rfl) rfl rJ rJ ?_
     intro w12 r12 g12
     have R12 := hH r12
     have W12 := hH (W11.out.only (show w0.heap.size < w2.heap.size by omega) g12)
     have F12 := hH (F11.out.only (show w0.heap.size < w2.heap.size by omega) g12)
     have L12 := hH (L11.out.only (show w0.heap.size < w8.heap.size by omega) g12)
     have B12 := hH (below_only (below_only BW.out T11.out.2 (Nat.le_refl _) (by omega)) g12 (Nat.le_refl _) (Nat.le_refl _))
     clear r12 g12
     (try simp only [Act.put])
     go_wp2_with fail
     exact bodyPost_ret (v := .tuple #[.agg #[.int .i64 c0, .int .i64 c1, .int .i64 c2, .int .i64 c3, .int .i64 c4, .int .i64 c5, .int .i64 c6, .int .i64 c7, .int .i64 c8, .int .i64 c9, .int .i64 c10, .int .i64 (N : Int), .int .i64 (L : Int), .int .i64 (S : Int), .slice fa wn fc, .slice f7a fn f7c, .slice aa an acp], .int .i64 0]) (ret_cell_tmp Tryz.results23 (by rfl) (by rfl) R12.out Tryz.underlying28 rfl rJ) rfl ⟨_, _, _, rfl, W12.out.now, F12.out.now, L12.out.now, B12.out⟩
    | succ j =>
     have hz1 : (0 : Int) < z := by omega
     have hz2 : z = (j : Int) + 1 := by omega
     have hk256 : (j : Int) ≤ 64 := by omega
     obtain ⟨⟨q, i, ⟨p1', q1'⟩, ⟨p2', q2'⟩⟩, ht⟩ := getElem?_ex (l := al) (k := k) (by rw [HANN.out]; omega)
     have hts := HA1.out _ (List.mem_of_getElem? ht)
     have hrs := hrest
     rw [drop_some ht, alertsBy_cons, List.append_assoc] at hrs
     have HC := hH (fun W (hW : Rd W R v l p 0) => HAL.out W R v p q i p1' q1' p2' q2' _ hW hrs hts)
     have HNX := hH hrs.next
     have HMN := hH (show (al.take (k + 1)).flatMap rowAl = (al.take k).flatMap rowAl ++ rowAl (q, i, (p1', q1'), (p2', q2')) from by rw [take_next ht, List.flatMap_append]; simp)
     have k16 : wr.cell? ⟨w1.heap.size, 16, none⟩ = some (.slice aa k acp) := (hE.cell 16).trans rfl
     have f16 := hE.frozen 16
     have hps : (k : Int) ≤ 64 := by omega
     clear hrest hT hA hE hO ht hts hrs hlen hz hkp
     go_wp2_with fail
     refine (err_any (HT.out.now.below bw)).mono ?_
     rintro e3 w3' ⟨rfl, rfl⟩
     go_wp2_with fail
     refine wp_region_B (T := fun w' => w'.cell? ⟨w1.heap.size, 16, none⟩ = some (.slice aa k acp)) 7 rJ kJ (fun hHeld => ?_); refine lTF 0 rfl hHeld ?_; refine lTB 1 #[true, false, true, true, true, false, false, false] rfl hHeld ?_; refine lTF 2 rfl hHeld ?_; refine lexHvB 3 rfl ?_ rJ; (intro K hK); (go_simp; (go_at_call 65); ((with_reducible refine (HC.out _ (HT.out.now.below bw)).mono ?_)); (rintro e w9 ⟨rfl, r9⟩); (have T9 := hH (RdTo.trans (RdTo.belowB H.out HT.out bw) r9)); (have y9 : wr.heap.size ≤ w9.heap.size := r9.2.size); (have O9 := hH (own_at HO.out fun b hb => r9.2.block b (HO.out.lt b hb).2 (fun e => by injection e with e; have := (HO.out.lt b hb).1; omega))); (have E9 := hH ((show RowAt wr.drew _ _ _ from HE.out).only r9.2 hne5)); (have Q9 := hH ((show RowAt wr.drew _ _ _ from HA.out).only r9.2 hne0)); (have K9 := hH (show ∀ b, w2.heap.size ≤ b → b < w8.heap.size → w9.heap[b]? = w8.heap[b]? from fun b h1 h2 => (r9.2.block b (show b < wr.heap.size by omega) (fun e => by injection e with e; omega)).trans (HK.out b h1 h2))); (have j16 : w9.cell? ⟨w1.heap.size, 16, none⟩ = some (.slice aa k acp) := (E9.out.cell 16).trans rfl); (clear r9); (try go_wp2_with fail)); clear hHeld; refine pJ hK fun hHeld => ?_; clear hK K; refine lexHvB 4 rfl ?_ rJ; (intro K hK); (go_simp); clear hHeld; refine pJ hK fun hHeld => ?_; clear hK K; refine lexHvB 5 rfl ?_ rJ; (intro K hK); ((refine app1N_step rfl _ _ 26 rfl Tryz.underlying26 eiAlert w8.heap.size (by rfl) O9.out (by rfl) (by first | rfl | simp) rfl (by simp [Value.oneCell']) (by omega) (by omega) ?_); (intro v10 w10 o10 g10 nb10); (have y10 : w9.heap.size ≤ w10.heap.size := g10.size); (obtain ⟨g8a, g8c, hv10⟩ := own_shapeN o10); (subst hv10); (have O10 := hH (show w10.ownsRow w8.heap.size 71 6 _ (k + 1) ((al.take k).flatMap rowAl ++ rowAl (q, i, (p1', q1'), (p2', q2'))) from o10)); (have T10 := hH (RdTo.belowB H.out T9.out (below_grown (Below.refl _ _) g10 (fun y hy => by have := (O9.out.lt y hy).1; omega) (by omega)))); (have E10 := hH (E9.out.only g10 (fun e => by have := (O9.out.lt _ e).1; omega))); (have X10 := hH (Q9.out.only g10 (fun e => by have := (O9.out.lt _ e).1; omega))); (have K10 := hH (show ∀ b, w2.heap.size ≤ b → b < w8.heap.size → w10.heap[b]? = w8.heap[b]? from fun b h1 h2 => (g10.block b (show b < w9.heap.size by omega) (fun e => by have := (O9.out.lt b e.symm).1; omega)).trans (K9.out b h1 h2))); (have i16 : w10.cell? ⟨w1.heap.size, 16, none⟩ = some (.slice aa k acp) := (E10.out.cell 16).trans rfl); (have fr16 := E10.out.frozen 16); (have zE10 := E10.out.lt); (clear o10 g10 nb10)); clear hHeld; refine pJ hK fun hHeld => ?_; clear hK K; refine lTF 6 rfl hHeld ?_; refine lexHvE 7 rfl ?_ rJ rJ; (intro K hK); (go_simp); refine hK.out _ _ ?_; (clear hK K); (try clear hHeld); (try simp only [Act.put]); refine wpAnyB_done rJ ?_ _
     go_wp2_with fail
     go_roundw
     case rel =>
      refine ⟨j, k + 1, _, (j : Int), .slice g8a (k + 1) g8c, by go_num, rfl, by have := HLE.out; omega, HNX.out, RdTo.belowB H.out T10.out bw, X10.out.keep (B := w.heap.size) bw hw0.heap.size, row_set E10.out rfl, ?_, by simp; omega, fun b hb1 hb2 => ?_⟩
      ·rw [HMN.out]
       exact own_keep O10.out (fun g hg _ => Below.heap_setCell _ _ _ _ (show g ≠ w1.heap.size by omega))
      ·exact (Below.heap_setCell _ _ _ _ (show b ≠ w1.heap.size by omega)).trans (K10.out b hb1 hb2)
     case measure => simp [intOf] <;> omega
  | succ k =>
   have hz1 : (0 : Int) < z := by omega
   have hz2 : z = (k : Int) + 1 := by omega
   have hk256 : (k : Int) ≤ 256 := by omega
   obtain ⟨t, ht⟩ := getElem?_ex (l := win) (k := ps.length) (by rw [HWN.out]; omega)
   have hts := HW1.out t (List.mem_of_getElem? ht)
   have hrs := hrest
   rw [drop_some ht, winBy_cons, List.append_assoc] at hrs
   have HC := hH (fun W (hW : Rd W R v l p 0) => HSE.out W R v p t _ hW hrs hts)
   have HNX := hH hrs.next
   have HMN := hH (show (ps.map (·.1)) ++ [t] = win.take (ps.length + 1) from by rw [take_next ht, hmap])
   have k14 : wr.cell? ⟨w1.heap.size, 14, none⟩ = some (.slice fa ps.length fc) := (hE.cell 14).trans rfl
   have k0 : wr.cell? ⟨w1.heap.size, 0, none⟩ = some (.int .i64 c0) := (hE.cell 0).trans rfl
   have f14 := hE.frozen 14
   have hps : (ps.length : Int) ≤ 256 := by omega
   obtain ⟨i, x, p', q, sc⟩ := t
   clear hmap hrest hT hA hE hS ht hts hrs hlen hz
   go_wp2_with fail
   refine (err_any (HT.out.now.below bw)).mono ?_
   rintro e3 w3' ⟨rfl, rfl⟩
   go_wp2_with fail
   refine wp_region_B (T := fun w' => w'.cell? ⟨w1.heap.size, 14, none⟩ = some (.slice fa ps.length fc) ∧ w'.cell? ⟨w1.heap.size, 0, none⟩ = some (.int .i64 c0)) 10 rJ kJ (fun hHeld => ?_); refine lTF 0 rfl hHeld ?_; refine lTB 1 #[true, false, true, true, true, true, true, true, false, false, false] rfl hHeld ?_; refine lTF 2 rfl hHeld ?_; refine lTF 3 rfl hHeld ?_; refine lTF 4 rfl hHeld ?_; refine lTB 5 #[true, true, true, true, true, false, false, false, false, false, false] rfl hHeld ?_; refine lexHvB 6 rfl ?_ rJ; (intro K hK); (go_simp; (go_at_call 63); ((with_reducible refine (HC.out _ (HT.out.now.below bw)).mono ?_)); (rintro e w6 ⟨vx, rfl, hx6, fx6, r6⟩); (obtain ⟨xa, xc, rfl⟩ := hx6.shape); (have X6 := hH hx6); (have FX6 := hH (show Fresh wr.heap.size _ from fx6)); (have T6 := hH (RdTo.trans (RdTo.belowB H.out HT.out bw) r6)); (have y6 : wr.heap.size ≤ w6.heap.size := r6.2.size); (have S6 := hH (HS.out.drew.only (show R < w2.heap.size by omega) r6.2)); (have E6 := hH ((show RowAt wr.drew _ _ _ from HE.out).only r6.2 hne5)); (have Q6 := hH ((show RowAt wr.drew _ _ _ from HA.out).only r6.2 hne0)); (have j14 : w6.cell? ⟨w1.heap.size, 14, none⟩ = some (.slice fa ps.length fc) := (E6.out.cell 14).trans rfl); (have j0 : w6.cell? ⟨w1.heap.size, 0, none⟩ = some (.int .i64 c0) := (E6.out.cell 0).trans rfl); (clear hx6 fx6 r6); (try go_wp2_with fail)); clear hHeld; refine pJ hK fun hHeld => ?_; clear hK K; refine lexHvB 7 rfl ?_ rJ; (intro K hK); (go_simp); clear hHeld; refine pJ hK fun hHeld => ?_; clear hK K; refine lexHvB 8 rfl ?_ rJ; (intro K hK); ((refine app1N_step rfl _ _ 24 rfl Tryz.underlying24 eiSeen w2.heap.size (by rfl) S6.out.ou (by rfl) (by first | rfl | simp) rfl (by simp [Value.oneCell']) (by omega) (by omega) ?_); (intro v8 w8 o8 g8 nb8); (have y8 : w6.heap.size ≤ w8.heap.size := g8.size); (obtain ⟨g8a, g8c, hv8⟩ := own_shapeN o8); (subst hv8); (have S8 := hH (S6.out.add (C := wr.heap.size) (t := (i, x, p', q, sc)) (by omega) (fun b hb => (HS.out.ou.lt b hb).2) X6.out FX6.out (by simpa [rowSn] using o8) g8 nb8)); (have T8 := hH (RdTo.belowB H.out T6.out (below_grown (Below.refl _ _) g8 (fun y hy => by have := (S6.out.ou.lt y hy).1; omega) (by omega)))); (have E8 := hH (E6.out.only g8 (fun e => by have := (S6.out.ou.lt _ e).1; omega))); (have X8 := hH (Q6.out.only g8 (fun e => by have := (S6.out.ou.lt _ e).1; omega))); (have i14 : w8.cell? ⟨w1.heap.size, 14, none⟩ = some (.slice fa ps.length fc) := (E8.out.cell 14).trans rfl); (have i0 : w8.cell? ⟨w1.heap.size, 0, none⟩ = some (.int .i64 c0) := (E8.out.cell 0).trans rfl); (have fr14 := E8.out.frozen 14); (have zE8 := E8.out.lt); (clear o8 g8 nb8)); clear hHeld; refine pJ hK fun hHeld => ?_; clear hK K; refine lTF 9 rfl hHeld ?_; refine lexHvE 10 rfl ?_ rJ rJ; (intro K hK); (go_simp); refine hK.out _ _ ?_; (clear hK K); (try clear hHeld); (try simp only [Act.put]); refine wpAnyB_done rJ ?_ _
   go_wp2_with fail
   go_roundw
   case rel =>
    refine ⟨k, _, (k : Int), .slice g8a (ps.length + 1) g8c, ps ++ [((i, x, p', q, sc), .slice xa x.length xc)], by go_num, rfl, by have := HLE.out; rw [List.length_append]; simp; omega, by rw [List.map_append, List.length_append]; exact HMN.out, by rw [List.length_append]; exact HNX.out, RdTo.belowB H.out T8.out bw, X8.out.keep (B := w.heap.size) bw hw0.heap.size, row_set E8.out rfl, S8.out.set (by omega)⟩
   case measure => simp [intOf] <;> omega
end Go.Proofs.YtgobbecpnjelmaaGreat
