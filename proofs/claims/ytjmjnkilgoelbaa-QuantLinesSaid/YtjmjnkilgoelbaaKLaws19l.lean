/-
  Laws19l: Walks of quant.Of and of QuantLines.
-/
import Derived.Test.YtjmjnkilgoelbaaJ4a
import Derived.Test.YtjmjnkilgoelbaaJ0c
namespace Go.Proofs.Ytjmjnkilgoelbaa
open Go.RowKit

def ofV (D : List (Int × Int)) (p t : Int) : Int × Int := if indexE D.length p t = 0 then kthV D (indexV D.length p t) else (0, 0)

theorem of_line {l : List (Int × Int)} (hl : l.length ≤ 4096) (ha : allS l = true) (p t : Int) : indexE (puts l).length p t = lineE l p t ∧ ofV (puts l) p t = lineV l p t := by
  rw [puts_sort hl ha]
  have hn := sortS_len ha
  have e1 : indexE (sortS l).length p t = lineE l p t := by
    unfold indexE lineE
    rw [hn, ha, if_pos rfl]
  refine ⟨e1, ?_⟩
  unfold ofV lineV
  rw [e1]
  split
  · rename_i h
    obtain ⟨hb, _⟩ := line_ok h
    obtain ⟨h1, _, _⟩ := index_is hb
    unfold kthV
    rw [hn, if_neg (by omega)]
  · rfl

set_option maxRecDepth 100000 in
set_option maxHeartbeats 8000000 in
theorem quantOf_any (P : Nat) (F : List Nat) (D : List (Int × Int)) (p t : Int) (w : World) (h : BagIn w P F D) (hp : Ok64 p) (ht : Ok64 t) :
    Calls Try.prog 57 #[.pointer (some ⟨P, 0, none⟩), .int .i64 p, .int .i64 t] w fun e w' => e = .returned (.tuple #[.agg #[.int .i64 (ofV D p t).1, .int .i64 (ofV D p t).2], .int .i64 (indexE D.length p t)]) ∧ Below w.heap.size w w' := by
  have HB := Lib.hid h
  have HLEN := Lib.hid (fun W (hW : BagIn W P F D) => lenIn_any _ F D W hW)
  have HIX := Lib.hid (fun W => qindex_any D.length p t W hp ht)
  obtain ⟨X, hX⟩ : ∃ X, ofV D p t = X := ⟨_, rfl⟩
  have HX := Lib.hid hX
  have HE := Lib.hid (show indexE D.length p t = 0 ∨ indexE D.length p t = 1 by unfold indexE; split <;> simp)
  obtain ⟨x, y⟩ := X
  rw [hX]
  have HK := Lib.hid (fun W (hW : BagIn W P F D) => kthIn_any _ F D (indexV D.length p t) W hW)
  have HKE := Lib.hid (fun h0 : indexE D.length p t = 0 => show kthE D (indexV D.length p t) = 0 from by
    have hb : ¬ indexBad D.length p t := by
      unfold indexE at h0
      split at h0
      · cases h0
      · assumption
    obtain ⟨h1, _, _⟩ := index_is hb
    unfold kthE
    rw [if_neg (by omega)])
  have HKV := Lib.hid (fun h0 : indexE D.length p t = 0 => show kthV D (indexV D.length p t) = (x, y) from by
    rw [← HX.out]
    unfold ofV
    rw [if_pos h0])
  obtain ⟨E, hE⟩ : ∃ E, indexE D.length p t = E := ⟨_, rfl⟩
  have HEE := Lib.hid hE
  obtain ⟨I, hI⟩ : ∃ I, indexV D.length p t = I := ⟨_, rfl⟩
  rw [hE] at HIX HE HKE HKV ⊢
  rw [hI] at HIX HK HKE HKV
  obtain ⟨N, hN⟩ : ∃ N, D.length = N := ⟨_, rfl⟩
  rw [hN] at HIX HLEN
  clear hX hI hN h hp ht
  rcases HE.out with he | he
  · subst he
    have hk := HK.out
    rw [HKE.out rfl, HKV.out rfl] at hk
    have HK2 := Lib.hid hk
    clear hk hE
    go_enter Try.func57, Try.ntmps57
    go_wp2_with fail
    (with_reducible refine (HLEN.out _ (HB.out.below (by (repeat (first | with_reducible exact Below.refl _ _ | with_reducible refine Bs ?_ | with_reducible refine Ba ?_ | with_reducible refine Bd ?_ | with_reducible refine Bn ?_))))).mono ?_)
    rintro e w1 ⟨rfl, rfl⟩
    go_wp2_with fail
    (with_reducible refine (HIX.out _).mono ?_)
    rintro e w1 ⟨rfl, rfl⟩
    go_wp2_with fail
    (with_reducible refine (HK2.out _ (HB.out.below (by (repeat (first | with_reducible exact Below.refl _ _ | with_reducible refine Bs ?_ | with_reducible refine Ba ?_ | with_reducible refine Bd ?_ | with_reducible refine Bn ?_))))).mono ?_); rintro e w3 ⟨rfl, b3⟩; have s3 : w.heap.size + 1 ≤ w3.heap.size := sz b3; have B3 := Lib.hid (Bc (B := w.heap.size) (a := w) (by (repeat (first | with_reducible exact Below.refl _ _ | with_reducible refine Bs ?_ | with_reducible refine Ba ?_ | with_reducible refine Bd ?_ | with_reducible refine Bn ?_))) b3); obtain ⟨c3_0, f3_0, c3_1, f3_1⟩ := k2f (w.heap.size) (.int .i64 0) (.int .i64 0) b3 (by and_intros <;> go_simp); obtain ⟨l3_0, n3_0, m3_0⟩ := lnm (show w.heap.size < w3.heap.size by omega); clear b3
    go_wp2_with fail
    exact bodyPost_ret (v := .tuple #[.agg #[.int .i64 x, .int .i64 y], .int .i64 0]) (by simp [results, Try.results57, go_sem, *]) rfl ⟨rfl, by (repeat (first | with_reducible exact Below.refl _ _ | with_reducible refine Bs ?_ | with_reducible refine Ba ?_ | with_reducible refine Bd ?_ | with_reducible refine Bn ?_ | with_reducible refine Bt B3.out ?_))⟩
  · subst he
    have hx0 : (x, y) = (0, 0) := by
      rw [← HX.out]
      unfold ofV
      rw [HEE.out]
      rfl
    injection hx0 with h1 h2
    subst h1 h2
    clear hE
    go_enter Try.func57, Try.ntmps57
    go_wp2_with fail
    (with_reducible refine (HLEN.out _ (HB.out.below (by (repeat (first | with_reducible exact Below.refl _ _ | with_reducible refine Bs ?_ | with_reducible refine Ba ?_ | with_reducible refine Bd ?_ | with_reducible refine Bn ?_))))).mono ?_)
    rintro e w1 ⟨rfl, rfl⟩
    go_wp2_with fail
    (with_reducible refine (HIX.out _).mono ?_)
    rintro e w1 ⟨rfl, rfl⟩
    go_wp2_with fail
    exact bodyPost_ret (v := .tuple #[.agg #[.int .i64 0, .int .i64 0], .int .i64 1]) (by simp [results, Try.results57, go_sem]) rfl ⟨rfl, by (repeat (first | with_reducible exact Below.refl _ _ | with_reducible refine Bs ?_ | with_reducible refine Ba ?_ | with_reducible refine Bd ?_ | with_reducible refine Bn ?_))⟩

set_option maxRecDepth 100000 in
set_option maxHeartbeats 8000000 in
theorem quantLines_mid {w : World} (a : Option Addr) (n c : Nat) (l : List (Int × Int)) (p t : Int) (h0 : PairsR w (.slice a n c) l) (hn : l.length = n) (hbig : ¬ (100 : Int) < (n : Int)) (hp : Ok64 p) (ht : Ok64 t) :
    Calls Try.prog 10 #[.slice a n c, .int .i64 p, .int .i64 t] w fun e w' => e = .returned (.bool true) ∧ Below w.heap.size w w' := by
  have HL := Lib.hid h0
  have HL0 := HL
  have HN := Lib.hid hn
  have hn4 : n ≤ 100 := by omega
  have HQ := Lib.hid (fun W (hW : PairsR W (.slice a n c) l) => qline_any _ l p t W hW (by omega) hp ht)
  have HR := Lib.hid (fun W (hW : PairsR W (.slice a n c) l) => rqline_any _ l p t W hW (by omega))
  have HAL := Lib.hid (fun W (hW : PairsR W (.slice a n c) l) => rall13_any _ l W hW)
  have HOL := Lib.hid (fun (ha : allS l = true) => of_line (l := l) (by omega) ha p t)
  have HOF := Lib.hid (fun P F W (hW : BagIn W P F (puts l)) => quantOf_any P F (puts l) p t W hW hp ht)
  obtain ⟨⟨x, y⟩, hX⟩ : ∃ X, lineV l p t = X := ⟨_, rfl⟩
  obtain ⟨E, hE⟩ : ∃ E, lineE l p t = E := ⟨_, rfl⟩
  rw [hX, hE] at HQ HR HOL
  clear h0 hn hX hE hp ht
  cases ha : allS l with
  | false =>
    rw [ha] at HAL
    clear ha
    go_enter Try.func10, Try.ntmps10
    go_wp2_with fail
    (with_reducible refine (HQ.out _ HL.out).mono ?_); rintro e w1 ⟨rfl, b1⟩; have s1 : w.heap.size ≤ w1.heap.size := sz b1; have B1 := Lib.hid (Bc (B := w.heap.size) (a := w) (by (repeat (first | with_reducible exact Below.refl _ _ | with_reducible refine Bs ?_ | with_reducible refine Ba ?_ | with_reducible refine Bd ?_ | with_reducible refine Bn ?_))) b1); have HL := Lib.hid ((HL.out.below (by (repeat (first | with_reducible exact Below.refl _ _ | with_reducible refine Bs ?_ | with_reducible refine Ba ?_ | with_reducible refine Bd ?_ | with_reducible refine Bn ?_)))).below b1); clear b1
    go_wp2_with fail
    (with_reducible refine (HR.out _ (HL.out.below (by (repeat (first | with_reducible exact Below.refl _ _ | with_reducible refine Bs ?_ | with_reducible refine Ba ?_ | with_reducible refine Bd ?_ | with_reducible refine Bn ?_))))).mono ?_); rintro e w2 ⟨rfl, b2⟩; have s2 : w1.heap.size + 1 ≤ w2.heap.size := sz b2; have B2 := Lib.hid (Bc (B := w.heap.size) (a := w) (by (repeat (first | with_reducible exact Below.refl _ _ | with_reducible refine Bs ?_ | with_reducible refine Ba ?_ | with_reducible refine Bd ?_ | with_reducible refine Bn ?_ | with_reducible refine Bt B1.out ?_))) b2); obtain ⟨c2_0, c2_1⟩ := k2 (w1.heap.size) (.int .i64 x) (.int .i64 y) b2 (by and_intros <;> go_simp); obtain ⟨l2_0, n2_0, m2_0⟩ := lnm (show w1.heap.size < w2.heap.size by omega); have HL := Lib.hid ((HL.out.below (by (repeat (first | with_reducible exact Below.refl _ _ | with_reducible refine Bs ?_ | with_reducible refine Ba ?_ | with_reducible refine Bd ?_ | with_reducible refine Bn ?_)))).below b2); clear b2
    go_wp2_with fail
    (with_reducible refine (HAL.out _ (HL.out.below (by (repeat (first | with_reducible exact Below.refl _ _ | with_reducible refine Bs ?_ | with_reducible refine Ba ?_ | with_reducible refine Bd ?_ | with_reducible refine Bn ?_))))).mono ?_); rintro e w3 ⟨rfl, b3⟩; have s3 : w2.heap.size + 1 ≤ w3.heap.size := sz b3; have B3 := Lib.hid (Bc (B := w.heap.size) (a := w) (by (repeat (first | with_reducible exact Below.refl _ _ | with_reducible refine Bs ?_ | with_reducible refine Ba ?_ | with_reducible refine Bd ?_ | with_reducible refine Bn ?_ | with_reducible refine Bt B2.out ?_))) b3); clear b3
    go_wp2_with fail
    (with_reducible refine (lives19_any _).mono ?_); rintro e w4 ⟨rfl, b4⟩; have s4 : w3.heap.size ≤ w4.heap.size := sz b4; have B4 := Lib.hid (Bc (B := w.heap.size) (a := w) (by (repeat (first | with_reducible exact Below.refl _ _ | with_reducible refine Bs ?_ | with_reducible refine Ba ?_ | with_reducible refine Bd ?_ | with_reducible refine Bn ?_ | with_reducible refine Bt B3.out ?_))) b4); clear b4
    go_wp2_with fail
    go_ret
    exact ⟨rfl, B4.out⟩
  | true =>
    rw [ha] at HAL
    have HA := Lib.hid ha
    obtain ⟨o1, o2⟩ := HOL.out ha
    rw [o1, o2] at HOF
    clear ha o1 o2
    go_enter Try.func10, Try.ntmps10
    go_wp2_with fail
    (with_reducible refine (HQ.out _ HL.out).mono ?_); rintro e w1 ⟨rfl, b1⟩; have s1 : w.heap.size ≤ w1.heap.size := sz b1; have B1 := Lib.hid (Bc (B := w.heap.size) (a := w) (by (repeat (first | with_reducible exact Below.refl _ _ | with_reducible refine Bs ?_ | with_reducible refine Ba ?_ | with_reducible refine Bd ?_ | with_reducible refine Bn ?_))) b1); have HL := Lib.hid ((HL.out.below (by (repeat (first | with_reducible exact Below.refl _ _ | with_reducible refine Bs ?_ | with_reducible refine Ba ?_ | with_reducible refine Bd ?_ | with_reducible refine Bn ?_)))).below b1); clear b1
    go_wp2_with fail
    (with_reducible refine (HR.out _ (HL.out.below (by (repeat (first | with_reducible exact Below.refl _ _ | with_reducible refine Bs ?_ | with_reducible refine Ba ?_ | with_reducible refine Bd ?_ | with_reducible refine Bn ?_))))).mono ?_); rintro e w2 ⟨rfl, b2⟩; have s2 : w1.heap.size + 1 ≤ w2.heap.size := sz b2; have B2 := Lib.hid (Bc (B := w.heap.size) (a := w) (by (repeat (first | with_reducible exact Below.refl _ _ | with_reducible refine Bs ?_ | with_reducible refine Ba ?_ | with_reducible refine Bd ?_ | with_reducible refine Bn ?_ | with_reducible refine Bt B1.out ?_))) b2); obtain ⟨c2_0, c2_1⟩ := k2 (w1.heap.size) (.int .i64 x) (.int .i64 y) b2 (by and_intros <;> go_simp); obtain ⟨l2_0, n2_0, m2_0⟩ := lnm (show w1.heap.size < w2.heap.size by omega); have HL := Lib.hid ((HL.out.below (by (repeat (first | with_reducible exact Below.refl _ _ | with_reducible refine Bs ?_ | with_reducible refine Ba ?_ | with_reducible refine Bd ?_ | with_reducible refine Bn ?_)))).below b2); clear b2
    go_wp2_with fail
    (with_reducible refine (HAL.out _ (HL.out.below (by (repeat (first | with_reducible exact Below.refl _ _ | with_reducible refine Bs ?_ | with_reducible refine Ba ?_ | with_reducible refine Bd ?_ | with_reducible refine Bn ?_))))).mono ?_); rintro e w3 ⟨rfl, b3⟩; have s3 : w2.heap.size + 1 ≤ w3.heap.size := sz b3; have B3 := Lib.hid (Bc (B := w.heap.size) (a := w) (by (repeat (first | with_reducible exact Below.refl _ _ | with_reducible refine Bs ?_ | with_reducible refine Ba ?_ | with_reducible refine Bd ?_ | with_reducible refine Bn ?_ | with_reducible refine Bt B2.out ?_))) b3); obtain ⟨c3_0, c3_1⟩ := k2 (w1.heap.size) (.int .i64 x) (.int .i64 y) b3 (by and_intros <;> go_simp); obtain ⟨c3_2, c3_3⟩ := k2 (w2.heap.size) (.int .i64 x) (.int .i64 y) b3 (by and_intros <;> go_simp); obtain ⟨l3_0, n3_0, m3_0⟩ := lnm (show w1.heap.size < w3.heap.size by omega); obtain ⟨l3_1, n3_1, m3_1⟩ := lnm (show w2.heap.size < w3.heap.size by omega); have HL := Lib.hid ((HL.out.below (by (repeat (first | with_reducible exact Below.refl _ _ | with_reducible refine Bs ?_ | with_reducible refine Ba ?_ | with_reducible refine Bd ?_ | with_reducible refine Bn ?_)))).below b3); clear b3
    go_wp2_with fail
    (with_reducible refine (newIn_any _).mono ?_); rintro e w4 ⟨rfl, bg4, b4⟩; have s4 : w3.heap.size ≤ w4.heap.size := sz b4; have B4 := Lib.hid (Bc (B := w.heap.size) (a := w) (by (repeat (first | with_reducible exact Below.refl _ _ | with_reducible refine Bs ?_ | with_reducible refine Ba ?_ | with_reducible refine Bd ?_ | with_reducible refine Bn ?_ | with_reducible refine Bt B3.out ?_))) b4); obtain ⟨c4_0, c4_1⟩ := k2 (w2.heap.size) (.int .i64 x) (.int .i64 y) b4 (by and_intros <;> go_simp); obtain ⟨l4_0, n4_0, m4_0⟩ := lnm (show w2.heap.size < w4.heap.size by omega); have HL := Lib.hid ((HL.out.below (by (repeat (first | with_reducible exact Below.refl _ _ | with_reducible refine Bs ?_ | with_reducible refine Ba ?_ | with_reducible refine Bd ?_ | with_reducible refine Bn ?_)))).below b4); clear b4
    have BG4 := Lib.hid bg4
    clear bg4
    go_wp2_with fail
    go_loopw [12] (fun i wr => ∃ (j : Nat) (F : List Nat), i = .int .i64 j ∧ j ≤ n ∧ BagIn wr w3.heap.size F (puts (l.take j)) ∧ (∀ x ∈ F, w3.heap.size ≤ x) ∧ Below w3.heap.size w4 wr) (fun i _ => n - (intOf i).toNat)
    case atStart => exact ⟨0, _, rfl, by omega, BG4.out, by simp, Below.refl _ _⟩
    case round =>
      obtain ⟨j, F, rfl, hj, hbg, hlo, hbr⟩ := hrel
      have HBG := Lib.hid hbg
      have HLO := Lib.hid hlo
      have BR := Lib.hid hbr
      have BW := Lib.hid (show Below w.heap.size w wr from below_tr B4.out (hbr.mono (by omega)))
      have BW0 := BW
      have hzr := hbr.size
      have d0 : wr.cell? ⟨w2.heap.size, 0, none⟩ = some (.int .i64 x) := kc hbr c4_0 (by omega)
      have d1 : wr.cell? ⟨w2.heap.size, 1, none⟩ = some (.int .i64 y) := kc hbr c4_1 (by omega)
      clear hbg hlo hbr
      by_cases hjn : j < n
      · obtain ⟨⟨u, v⟩, hx⟩ := getElem?_ex (l := l) (k := j) (by rw [HN.out]; exact hjn)
        obtain ⟨b, o, rfl, hb0, _, _⟩ := HL0.out.cells hx
        obtain ⟨hb, g0, g1⟩ := (HL0.out.below BW.out).at hx
        dsimp only at g0 g1
        have HNX := Lib.hid (puts_next hx)
        have hl4 := puts_take (l := l) j (by rw [HN.out]; omega)
        have HAD := Lib.hid (addIn_any _ F _ u v wr HBG.out)
        rw [← HNX.out, putE_ok (allS_mem HA.out (List.mem_of_getElem? hx)) (by omega)] at HAD
        have i1 : (0 : Int) ≤ (j : Int) := by omega
        have i2 : (j : Int) < (n : Int) := by omega
        have hjl : j + 1 ≤ n := hjn
        clear hx hl4
        go_wp2_with fail
        (with_reducible refine HAD.out.mono ?_)
        rintro e w5 ⟨rfl, F2, bg2, m2⟩
        have BG2 := Lib.hid bg2
        obtain ⟨b2, lo2⟩ := m2.low (B := w3.heap.size) HLO.out (by omega)
        have LO2 := Lib.hid lo2
        have B5 := Lib.hid (below_tr BR.out b2)
        clear bg2 m2 b2 lo2
        go_wp2_with fail
        refine ⟨⟨j + 1, F2, by go_num, hjl, BG2.out, LO2.out, B5.out⟩, by simp [intOf]; omega⟩
      · obtain rfl : j = n := by omega
        rw [List.take_of_length_le (by rw [HN.out]; exact Nat.le_refl _)] at HBG
        have hl1 : w2.heap.size < wr.heap.size := by omega
        go_wp2_with fail
        (with_reducible refine (HOF.out _ F _ HBG.out).mono ?_); rintro e w6 ⟨rfl, b6⟩; have s6 : wr.heap.size ≤ w6.heap.size := sz b6; have B6 := Lib.hid (Bc (B := w.heap.size) (a := w) (by (repeat (first | with_reducible exact Below.refl _ _ | with_reducible refine Bs ?_ | with_reducible refine Ba ?_ | with_reducible refine Bd ?_ | with_reducible refine Bn ?_ | with_reducible refine Bt BW0.out ?_))) b6); obtain ⟨c6_0, c6_1⟩ := k2 (w2.heap.size) (.int .i64 x) (.int .i64 y) b6 (by and_intros <;> go_simp); obtain ⟨l6_0, n6_0, m6_0⟩ := lnm (show w2.heap.size < w6.heap.size by omega); clear b6
        go_wp2_with fail
        (with_reducible refine (lives19_any _).mono ?_); rintro e w7 ⟨rfl, b7⟩; have s7 : w6.heap.size + 1 ≤ w7.heap.size := sz b7; have B7 := Lib.hid (Bc (B := w.heap.size) (a := w) (by (repeat (first | with_reducible exact Below.refl _ _ | with_reducible refine Bs ?_ | with_reducible refine Ba ?_ | with_reducible refine Bd ?_ | with_reducible refine Bn ?_ | with_reducible refine Bt B6.out ?_))) b7); clear b7
        go_wp2_with fail
        go_ret
        exact ⟨rfl, B7.out⟩

set_option maxRecDepth 100000 in
set_option maxHeartbeats 4000000 in
theorem quantLines_walk {w : World} (v : Value) (rows : List (List Int)) (h : ArgRows 2 w v rows) (p : Int) (hp : (Lit.int .i64 p).wf = true) (t : Int) (ht : (Lit.int .i64 t).wf = true) :
    Calls Try.prog 10 #[v, .int .i64 p, .int .i64 t] w fun e w' => e = .returned (.bool true) ∧ Below w.heap.size w w' := by
  have hp := wf_ok hp
  have ht := wf_ok ht
  by_cases hl : (100 : Int) < rows.length
  · obtain ⟨ad, c, rfl, _⟩ := h.shape
    generalize rows.length = m at *
    clear h hp ht
    go_enter Try.func10, Try.ntmps10
    go_wp2_with fail
    (with_reducible refine (lives19_any _).mono ?_); rintro e w1 ⟨rfl, b1⟩; have s1 : w.heap.size ≤ w1.heap.size := sz b1; have B1 := Lib.hid (Bc (B := w.heap.size) (a := w) (by (repeat (first | with_reducible exact Below.refl _ _ | with_reducible refine Bs ?_ | with_reducible refine Ba ?_ | with_reducible refine Bd ?_ | with_reducible refine Bn ?_))) b1); clear b1
    go_wp2_with fail
    go_ret
    exact ⟨rfl, by (repeat (first | with_reducible exact Below.refl _ _ | with_reducible refine Bs ?_ | with_reducible refine Ba ?_ | with_reducible refine Bd ?_ | with_reducible refine Bn ?_ | with_reducible refine Bt B1.out ?_))⟩
  · have i0 := h.pairs (by omega)
    have hlen : (rows.map pairOf).length = rows.length := by rw [List.length_map]
    obtain ⟨ad, c, rfl, _⟩ := h.shape
    exact quantLines_mid ad rows.length c (rows.map pairOf) p t i0 hlen hl hp ht
end Go.Proofs.Ytjmjnkilgoelbaa
