/-
  StateR: Walks of copseref28.Scores, copseref28.Line and state.Line.
-/
import Derived.Test.YtgobbecpnjelmaaGreatJ4a
import Derived.Test.YtgobbecpnjelmaaGreatJ1a
namespace Go.Proofs.YtgobbecpnjelmaaGreat
open Go.RowKit

/-- The scores of a window. -/
def scoresOf : List SeenT → List (Int × Int)
  | [] => []
  | t :: l => if t.2.2.2.2 = true then (t.2.2.1, t.2.2.2.1) :: scoresOf l else scoresOf l

theorem scoresOf_len : ∀ l, (scoresOf l).length ≤ l.length
  | [] => Nat.le_refl _
  | t :: l => by
    have := scoresOf_len l
    unfold scoresOf
    split
    · simp only [List.length_cons]; omega
    · simp only [List.length_cons]; omega

theorem scoresOf_append : ∀ l m, scoresOf (l ++ m) = scoresOf l ++ scoresOf m
  | [], m => rfl
  | t :: l, m => by
    have := scoresOf_append l m
    rw [List.cons_append, scoresOf, scoresOf, this]
    split <;> rfl

theorem scoresOf_yes {l : List SeenT} {k : Nat} {t : SeenT} (h : l[k]? = some t) (hs : t.2.2.2.2 = true) : scoresOf (l.take (k + 1)) = scoresOf (l.take k) ++ [(t.2.2.1, t.2.2.2.1)] := by
  rw [List.take_add_one, h, scoresOf_append]
  show _ ++ scoresOf [t] = _
  rw [scoresOf, if_pos hs]
  rfl

theorem scoresOf_no {l : List SeenT} {k : Nat} {t : SeenT} (h : l[k]? = some t) (hs : t.2.2.2.2 = false) : scoresOf (l.take (k + 1)) = scoresOf (l.take k) := by
  rw [List.take_add_one, h, scoresOf_append]
  show _ ++ scoresOf [t] = _
  rw [scoresOf, if_neg (by rw [hs]; simp)]
  simp [scoresOf]

/-- The line of a state. -/
noncomputable def lineT (s : StP) : (Int × Int) × Bool :=
  if stateB s = true then (if ((scoresOf s.win).length : Int) < s.c3 then ((0, 0), false) else (lineV (scoresOf s.win) s.c6 s.c7, decide (lineE (scoresOf s.win) s.c6 s.c7 = 0))) else ((0, 0), false)

theorem lineT_no {s : StP} (h : stateB s = false) : lineT s = ((0, 0), false) := by
  unfold lineT
  rw [if_neg (by rw [h]; simp)]

theorem lineT_few {s : StP} (h : stateB s = true) (h2 : ((scoresOf s.win).length : Int) < s.c3) : lineT s = ((0, 0), false) := by
  unfold lineT
  rw [if_pos h, if_pos h2]

theorem lineT_yes {s : StP} (h : stateB s = true) (h2 : ¬ ((scoresOf s.win).length : Int) < s.c3) : lineT s = (lineV (scoresOf s.win) s.c6 s.c7, decide (lineE (scoresOf s.win) s.c6 s.c7 = 0)) := by
  unfold lineT
  rw [if_pos h, if_neg h2]

set_option maxRecDepth 100000 in
set_option maxHeartbeats 8000000 in
theorem rscores28_any (c0 c1 c2 c3 c4 c5 c6 c7 c8 c9 c10 : Int) (count last seq : Int) (wa : Option Addr) (wn wc : Nat) (fv av : Value) (win : List SeenT) (w : World) (hS : SeensR w (.slice wa wn wc) win) (hwn : win.length = wn) (hb : wn ≤ 1000) :
    Calls Tryz.prog 28 #[.agg #[.int .i64 c0, .int .i64 c1, .int .i64 c2, .int .i64 c3, .int .i64 c4, .int .i64 c5, .int .i64 c6, .int .i64 c7, .int .i64 c8, .int .i64 c9, .int .i64 c10, .int .i64 count, .int .i64 last, .int .i64 seq, .slice wa wn wc, fv, av]] w fun e w' => ∃ v', e = .returned v' ∧ PairsR w' v' (scoresOf win) ∧ Below w.heap.size w w' := by
  have HS := Lib.hid hS
  have HL := Lib.hid hwn
  clear hS hwn
  go_enter Tryz.func28, Tryz.ntmps28
  go_wp2_with fail
  go_loopw [3, 4] (fun o idx wr => ∃ k : Nat, idx = .int .i64 (k : Int) ∧ k ≤ wn ∧ wr.ownsRow (w.heap.size + 1) 32 2 o (scoresOf (win.take k)).length ((scoresOf (win.take k)).flatMap pairF) ∧ Below w.heap.size w wr ∧ w.heap.size < wr.heap.size ∧ wr.cell? ⟨w.heap.size, 14, none⟩ = some (.slice wa wn wc)) (fun _ idx _ => wn - (intOf idx).toNat)
  case atStart => exact ⟨0, rfl, Nat.zero_le _, World.ownsRow_nil _ _ _ _, bw, by simp, by go_simp⟩
  case round =>
    obtain ⟨k, rfl, hk, hown, hbi, hsz, k14⟩ := hrel
    rename World => wi
    have HO := Lib.hid hown
    have BI := Lib.hid hbi
    by_cases hlt : k < wn
    · obtain ⟨⟨i, x, p, q, s⟩, ht⟩ := getElem?_ex (l := win) (k := k) (by rw [HL.out]; exact hlt)
      obtain ⟨b, o, xa, xc, e, hbb, x0, x1, x2, x3, x4, hx⟩ := (HS.out.below hbi).at ht
      subst e
      dsimp only at x0 x1 x2 x3 x4 hx
      have i1 : (0 : Int) ≤ (k : Int) := by omega
      have i2 : (k : Int) < (wn : Int) := by omega
      have HLT := Lib.hid hlt
      have hln : (scoresOf (win.take k)).length ≤ wn := by
        refine Nat.le_trans (scoresOf_len _) ?_
        rw [List.length_take, HL.out]; omega
      have HLN := Lib.hid hln
      cases s with
      | false =>
        have HTK := Lib.hid (scoresOf_no ht rfl)
        clear hx ht hown hbi hlt hln
        go_wp2_with fail
        go_roundw
        case rel => exact ⟨k + 1, by go_num, by have := HLT.out; omega, by rw [HTK.out]; exact HO.out, BI.out, hsz, k14⟩
        case measure => have := HLT.out; simp [intOf] <;> omega
      | true =>
        have HTK := Lib.hid (scoresOf_yes ht rfl)
        dsimp only at HTK
        obtain ⟨m, hm⟩ : ∃ m, (scoresOf (win.take k)).length = m := ⟨_, rfl⟩
        obtain ⟨XS, hXS⟩ : ∃ XS, (scoresOf (win.take k)).flatMap pairF = XS := ⟨_, rfl⟩
        rw [hm, hXS] at HO
        rw [hm] at hln
        have HM := Lib.hid hm
        have HXS := Lib.hid hXS
        clear hx ht hown hbi hlt HLN hm hXS
        go_wp2_with (at_builtin; go_must (refine app1 rfl _ _ 53 rfl Tryz.underlying53 eiScore (w.heap.size + 1) (by rfl) HO.out (by rfl) rfl (by simp [Value.oneCell']) (by omega) (by first | omega | (simp; done) | (simp; omega)) ?_))
        intro v5 w5 hown5 hb5 _
        have OWN5 := Lib.hid hown5
        have B5 := Lib.hid (show Below w.heap.size w w5 from below_tr (bx BI.out) (hb5.mono (by omega)))
        have z5 := hb5.size
        have k14' := (hb5.cell (p := ⟨w.heap.size, 14, none⟩) (Nat.lt_succ_self _)).trans k14
        clear hown5 hb5
        go_wp2_with fail
        go_roundw
        case rel => exact ⟨k + 1, by go_num, by have := HLT.out; omega, by rw [HTK.out, List.length_append, List.flatMap_append, HM.out, HXS.out]; exact OWN5.out, B5.out, by omega, k14'⟩
        case measure => have := HLT.out; simp [intOf] <;> omega
    · obtain rfl : k = wn := by omega
      rw [List.take_of_length_le (by rw [HL.out]; exact Nat.le_refl _)] at hown
      have HOW := Lib.hid hown
      obtain ⟨oa, om, oc, rfl⟩ := own_shape hown
      clear hown hbi
      go_wp2_with fail
      go_ret
      exact ⟨_, rfl, own_pairs HOW.out rfl (by have := scoresOf_len win; rw [HL.out] at this; omega), BI.out⟩

set_option maxRecDepth 100000 in
set_option maxHeartbeats 16000000 in
theorem rline28_any (c0 c1 c2 c3 c4 c5 c6 c7 c8 c9 c10 : Int) (count last seq : Int) (wa fa aa : Option Addr) (wn wc fn fc an ac : Nat) (win : List SeenT) (f : List (TreeP × Int)) (al : List AlertT) (w : World)
    (hS : SeensR w (.slice wa wn wc) win) (hwn : win.length = wn) (hG : GrownsR w (.slice fa fn fc) f) (hfn : f.length = fn) (hA : AlertsR w (.slice aa an ac) al) (han : al.length = an) (hb : wn ≤ 1000) :
    Calls Tryz.prog 9 #[.agg #[.int .i64 c0, .int .i64 c1, .int .i64 c2, .int .i64 c3, .int .i64 c4, .int .i64 c5, .int .i64 c6, .int .i64 c7, .int .i64 c8, .int .i64 c9, .int .i64 c10, .int .i64 count, .int .i64 last, .int .i64 seq, .slice wa wn wc, .slice fa fn fc, .slice aa an ac]] w fun e w' => e = .returned (.tuple #[.agg #[.int .i64 (lineT ⟨c0, c1, c2, c3, c4, c5, c6, c7, c8, c9, c10, count, last, seq, win, f, al⟩).1.1, .int .i64 (lineT ⟨c0, c1, c2, c3, c4, c5, c6, c7, c8, c9, c10, count, last, seq, win, f, al⟩).1.2], .bool (lineT ⟨c0, c1, c2, c3, c4, c5, c6, c7, c8, c9, c10, count, last, seq, win, f, al⟩).2]) ∧ Below w.heap.size w w' := by
  obtain ⟨B, hB⟩ : ∃ B, stateB ⟨c0, c1, c2, c3, c4, c5, c6, c7, c8, c9, c10, count, last, seq, win, f, al⟩ = B := ⟨_, rfl⟩
  have HR := Lib.hid (fun W (h1 : SeensR W (.slice wa wn wc) win) (h2 : GrownsR W (.slice fa fn fc) f) (h3 : AlertsR W (.slice aa an ac) al) => dupC (hB ▸ rright28_any c0 c1 c2 c3 c4 c5 c6 c7 c8 c9 c10 count last seq wa fa aa wn wc fn fc an ac win f al W h1 hwn h2 hfn h3 han))
  have HS := Lib.hid hS
  have HG := Lib.hid hG
  have HA := Lib.hid hA
  cases B with
  | false =>
    rw [lineT_no hB]
    clear hB hS hG hA hwn hfn han
    dsimp only
    go_enter Tryz.func9, Tryz.ntmps9
    go_upto_region 1 with fail
    have R0 := Lib.hid ((rowz_new (W := w) (T := 28) (cs := #[.int .i64 c0, .int .i64 c1, .int .i64 c2, .int .i64 c3, .int .i64 c4, .int .i64 c5, .int .i64 c6, .int .i64 c7, .int .i64 c8, .int .i64 c9, .int .i64 c10, .int .i64 count, .int .i64 last, .int .i64 seq, .slice wa wn wc, .slice fa fn fc, .slice aa an ac]) rfl).alloc (.cells #[.int .i64 0, .int .i64 0] 32))
    refine wp_region_lit ?_
    refine loadRow rfl 28 _ rfl R0.out (by rfl) Tryz.underlying28 rfl (by kernel_rfl) ?_
    (try simp only [Act.put, List.setIfInBounds_toArray, List.set_cons_zero, List.set_cons_succ])
    go_wp2_with fail
    (with_reducible refine (HR.out _ (HS.out.below bw) (HG.out.below bw) (HA.out.below bw)).mono ?_); rintro e w1 ⟨rfl, b1, bx1⟩; have s1 : w.heap.size + 1 + 1 ≤ w1.heap.size := sz b1; have B1 := Lib.hid (Bc (B := w.heap.size) (a := w) bw b1); obtain ⟨c1_0, f1_0, c1_1, f1_1⟩ := k2f (w.heap.size + 1) (.int .i64 0) (.int .i64 0) b1 (by and_intros <;> go_simp); obtain ⟨l1_0, n1_0, m1_0⟩ := lnm (show w.heap.size + 1 < w1.heap.size by omega); clear b1
    clear bx1
    go_wp2_with fail
    exact bodyPost_ret (v := .tuple #[.agg #[.int .i64 0, .int .i64 0], .bool false]) (by simp [results, Tryz.results9, go_sem, *]) rfl ⟨rfl, bx B1.out⟩
  | true =>
    have HSC := Lib.hid (fun W (h1 : SeensR W (.slice wa wn wc) win) => rscores28_any c0 c1 c2 c3 c4 c5 c6 c7 c8 c9 c10 count last seq wa wn wc (.slice fa fn fc) (.slice aa an ac) win W h1 hwn hb)
    have hln : (scoresOf win).length ≤ 1000 := Nat.le_trans (scoresOf_len win) (by omega)
    have hlt0 := lineT_few (s := ⟨c0, c1, c2, c3, c4, c5, c6, c7, c8, c9, c10, count, last, seq, win, f, al⟩) hB
    have hly0 := lineT_yes (s := ⟨c0, c1, c2, c3, c4, c5, c6, c7, c8, c9, c10, count, last, seq, win, f, al⟩) hB
    dsimp only at hlt0 hly0
    obtain ⟨⟨⟨X, Y⟩, Z⟩, hXYZ⟩ : ∃ r, lineT ⟨c0, c1, c2, c3, c4, c5, c6, c7, c8, c9, c10, count, last, seq, win, f, al⟩ = r := ⟨_, rfl⟩
    rw [hXYZ] at hlt0 hly0 ⊢
    have HLT := Lib.hid hlt0
    have HLY := Lib.hid hly0
    clear hlt0 hly0 hXYZ
    dsimp only
    have HQ := Lib.hid (fun W v (h : PairsR W v (scoresOf win)) => rqline_any v (scoresOf win) c6 c7 W h (by omega))
    obtain ⟨l, hl⟩ : ∃ l, scoresOf win = l := ⟨_, rfl⟩
    rw [hl] at HSC hln HLT HLY HQ
    clear hB hS hG hA hwn hfn han hl hb
    obtain ⟨m, hm⟩ : ∃ m, l.length = m := ⟨_, rfl⟩
    rw [hm] at hln HLT HLY
    go_enter Tryz.func9, Tryz.ntmps9
    go_upto_region 1 with fail
    have R0 := Lib.hid ((rowz_new (W := w) (T := 28) (cs := #[.int .i64 c0, .int .i64 c1, .int .i64 c2, .int .i64 c3, .int .i64 c4, .int .i64 c5, .int .i64 c6, .int .i64 c7, .int .i64 c8, .int .i64 c9, .int .i64 c10, .int .i64 count, .int .i64 last, .int .i64 seq, .slice wa wn wc, .slice fa fn fc, .slice aa an ac]) rfl).alloc (.cells #[.int .i64 0, .int .i64 0] 32))
    refine wp_region_lit ?_
    refine loadRow rfl 28 _ rfl R0.out (by rfl) Tryz.underlying28 rfl (by kernel_rfl) ?_
    (try simp only [Act.put, List.setIfInBounds_toArray, List.set_cons_zero, List.set_cons_succ])
    go_wp2_with fail
    (with_reducible refine (HR.out _ (HS.out.below bw) (HG.out.below bw) (HA.out.below bw)).mono ?_); rintro e w1 ⟨rfl, b1, bx1⟩; have s1 : w.heap.size + 1 + 1 ≤ w1.heap.size := sz b1; have B1 := Lib.hid (Bc (B := w.heap.size) (a := w) bw b1); have c1_0 : w1.cell? ⟨w.heap.size, 3, none⟩ = some (.int .i64 c3) := kC b1; have c1_1 : w1.cell? ⟨w.heap.size, 14, none⟩ = some (.slice wa wn wc) := kC b1; have c1_2 : w1.cell? ⟨w.heap.size, 6, none⟩ = some (.int .i64 c6) := kC b1; have c1_3 : w1.cell? ⟨w.heap.size, 7, none⟩ = some (.int .i64 c7) := kC b1; obtain ⟨c1_4, f1_4, c1_5, f1_5⟩ := k2f (w.heap.size + 1) (.int .i64 0) (.int .i64 0) b1 (by and_intros <;> go_simp); obtain ⟨l1_0, n1_0, m1_0⟩ := lnm (show w.heap.size < w1.heap.size by omega); obtain ⟨l1_1, n1_1, m1_1⟩ := lnm (show w.heap.size + 1 < w1.heap.size by omega); clear b1
    have R1 := Lib.hid (R0.out.keep bx1 (by first | omega | (simp; done) | (simp; omega)))
    clear bx1
    go_upto_region 3 with fail
    refine wp_region_lit ?_
    refine loadRow rfl 28 _ rfl R1.out (by rfl) Tryz.underlying28 rfl (by kernel_rfl) ?_
    (try simp only [Act.put, List.setIfInBounds_toArray, List.set_cons_zero, List.set_cons_succ])
    go_wp2_with fail
    (with_reducible refine (HSC.out _ (HS.out.below (bx B1.out))).mono ?_); rintro e w2 ⟨v2, rfl, p2, b2⟩; have s2 : w1.heap.size ≤ w2.heap.size := sz b2; have B2 := Lib.hid (Bc (B := w.heap.size) (a := w) (bx B1.out) b2); have c2_0 : w2.cell? ⟨w.heap.size, 3, none⟩ = some (.int .i64 c3) := kC b2; have c2_1 : w2.cell? ⟨w.heap.size, 14, none⟩ = some (.slice wa wn wc) := kC b2; have c2_2 : w2.cell? ⟨w.heap.size, 6, none⟩ = some (.int .i64 c6) := kC b2; have c2_3 : w2.cell? ⟨w.heap.size, 7, none⟩ = some (.int .i64 c7) := kC b2; obtain ⟨c2_4, f2_4, c2_5, f2_5⟩ := k2f (w.heap.size + 1) (.int .i64 0) (.int .i64 0) b2 (by and_intros <;> go_simp); obtain ⟨l2_0, n2_0, m2_0⟩ := lnm (show w.heap.size < w2.heap.size by omega); obtain ⟨l2_1, n2_1, m2_1⟩ := lnm (show w.heap.size + 1 < w2.heap.size by omega); clear b2
    obtain ⟨a2, q2, rfl⟩ := p2.shape
    have P2 := Lib.hid p2
    rw [hm] at P2 ⊢
    clear p2 hm
    by_cases hlt : (m : Int) < c3
    · have e0 := HLT.out hlt
      injection e0 with e1 e2
      injection e1 with e3 e4
      subst e2 e3 e4
      clear HLT HLY HQ
      go_wp2_with fail
      exact bodyPost_ret (v := .tuple #[.agg #[.int .i64 0, .int .i64 0], .bool false]) (by simp [results, Tryz.results9, go_sem, *]) rfl ⟨rfl, bx B2.out⟩
    · have e0 := HLY.out (by omega)
      injection e0 with e1 e2
      have HQ2 := Lib.hid (fun W v (h : PairsR W v l) => HQ.out W v h)
      rw [← e1] at HQ2
      have HZ := Lib.hid e2
      clear HLT HLY HQ e1 e2
      dsimp only at HQ2
      generalize lineE l c6 c7 = E at *
      by_cases hE : E = 0
      · subst hE
        go_wp2_with fail
        (with_reducible refine (HQ2.out _ _ (P2.out.below bw)).mono ?_); rintro e w3 ⟨rfl, b3⟩; have s3 : w2.heap.size ≤ w3.heap.size := sz b3; have B3 := Lib.hid (Bc (B := w.heap.size) (a := w) (bx B2.out) b3); obtain ⟨c3_0, f3_0, c3_1, f3_1⟩ := k2f (w.heap.size + 1) (.int .i64 0) (.int .i64 0) b3 (by and_intros <;> go_simp); obtain ⟨l3_0, n3_0, m3_0⟩ := lnm (show w.heap.size + 1 < w3.heap.size by omega); clear b3
        go_wp2_with fail
        exact bodyPost_ret (v := .tuple #[.agg #[.int .i64 X, .int .i64 Y], .bool true]) (by simp [results, Tryz.results9, go_sem, *]) rfl ⟨by rw [HZ.out]; rfl, bx B3.out⟩
      · have j1 : (E == 0) = false := by rw [beq_eq_false_iff_ne]; exact hE
        have HE := Lib.hid hE
        clear hE
        go_wp2_with fail
        (with_reducible refine (HQ2.out _ _ (P2.out.below bw)).mono ?_); rintro e w3 ⟨rfl, b3⟩; have s3 : w2.heap.size ≤ w3.heap.size := sz b3; have B3 := Lib.hid (Bc (B := w.heap.size) (a := w) (bx B2.out) b3); obtain ⟨c3_0, f3_0, c3_1, f3_1⟩ := k2f (w.heap.size + 1) (.int .i64 0) (.int .i64 0) b3 (by and_intros <;> go_simp); obtain ⟨l3_0, n3_0, m3_0⟩ := lnm (show w.heap.size + 1 < w3.heap.size by omega); clear b3
        go_wp2_with fail
        exact bodyPost_ret (v := .tuple #[.agg #[.int .i64 X, .int .i64 Y], .bool false]) (by simp [results, Tryz.results9, go_sem, *]) rfl ⟨by rw [HZ.out, decide_eq_false HE.out], bx B3.out⟩

set_option maxRecDepth 100000 in
set_option maxHeartbeats 16000000 in
theorem sline28_any (c0 c1 c2 c3 c4 c5 c6 c7 c8 c9 c10 : Int) (count last seq : Int) (wa fa aa : Option Addr) (wn wc fn fc an ac : Nat) (win : List SeenT) (f : List (TreeP × Int)) (al : List AlertT) (w : World) (hw6 : Ok64 c6) (hw : Ok64 c7)
    (hS : SeensR w (.slice wa wn wc) win) (hwn : win.length = wn) (hG : GrownsR w (.slice fa fn fc) f) (hfn : f.length = fn) (hA : AlertsR w (.slice aa an ac) al) (han : al.length = an) (hb : wn ≤ 1000) :
    Calls Tryz.prog 8 #[.agg #[.int .i64 c0, .int .i64 c1, .int .i64 c2, .int .i64 c3, .int .i64 c4, .int .i64 c5, .int .i64 c6, .int .i64 c7, .int .i64 c8, .int .i64 c9, .int .i64 c10, .int .i64 count, .int .i64 last, .int .i64 seq, .slice wa wn wc, .slice fa fn fc, .slice aa an ac]] w fun e w' => e = .returned (.tuple #[.agg #[.int .i64 (lineT ⟨c0, c1, c2, c3, c4, c5, c6, c7, c8, c9, c10, count, last, seq, win, f, al⟩).1.1, .int .i64 (lineT ⟨c0, c1, c2, c3, c4, c5, c6, c7, c8, c9, c10, count, last, seq, win, f, al⟩).1.2], .bool (lineT ⟨c0, c1, c2, c3, c4, c5, c6, c7, c8, c9, c10, count, last, seq, win, f, al⟩).2]) ∧ Below w.heap.size w w' := by
  obtain ⟨B, hB⟩ : ∃ B, stateB ⟨c0, c1, c2, c3, c4, c5, c6, c7, c8, c9, c10, count, last, seq, win, f, al⟩ = B := ⟨_, rfl⟩
  have HR := Lib.hid (fun W (h1 : SeensR W (.slice wa wn wc) win) (h2 : GrownsR W (.slice fa fn fc) f) (h3 : AlertsR W (.slice aa an ac) al) => dupC (hB ▸ sright28_any c0 c1 c2 c3 c4 c5 c6 c7 c8 c9 c10 count last seq wa fa aa wn wc fn fc an ac win f al W hw h1 hwn h2 hfn h3 han))
  have HS := Lib.hid hS
  have HG := Lib.hid hG
  have HA := Lib.hid hA
  cases B with
  | false =>
    rw [lineT_no hB]
    clear hB hS hG hA hwn hfn han
    dsimp only
    go_enter Tryz.func8, Tryz.ntmps8
    go_upto_region 1 with fail
    have R0 := Lib.hid ((rowz_new (W := w) (T := 28) (cs := #[.int .i64 c0, .int .i64 c1, .int .i64 c2, .int .i64 c3, .int .i64 c4, .int .i64 c5, .int .i64 c6, .int .i64 c7, .int .i64 c8, .int .i64 c9, .int .i64 c10, .int .i64 count, .int .i64 last, .int .i64 seq, .slice wa wn wc, .slice fa fn fc, .slice aa an ac]) rfl).alloc (.cells #[.int .i64 0, .int .i64 0] 32))
    refine wp_region_lit ?_
    refine loadRow rfl 28 _ rfl R0.out (by rfl) Tryz.underlying28 rfl (by kernel_rfl) ?_
    (try simp only [Act.put, List.setIfInBounds_toArray, List.set_cons_zero, List.set_cons_succ])
    go_wp2_with fail
    (with_reducible refine (HR.out _ (HS.out.below bw) (HG.out.below bw) (HA.out.below bw)).mono ?_); rintro e w1 ⟨rfl, b1, bx1⟩; have s1 : w.heap.size + 1 + 1 ≤ w1.heap.size := sz b1; have B1 := Lib.hid (Bc (B := w.heap.size) (a := w) bw b1); obtain ⟨c1_0, f1_0, c1_1, f1_1⟩ := k2f (w.heap.size + 1) (.int .i64 0) (.int .i64 0) b1 (by and_intros <;> go_simp); obtain ⟨l1_0, n1_0, m1_0⟩ := lnm (show w.heap.size + 1 < w1.heap.size by omega); clear b1
    clear bx1
    go_wp2_with fail
    exact bodyPost_ret (v := .tuple #[.agg #[.int .i64 0, .int .i64 0], .bool false]) (by simp [results, Tryz.results8, go_sem, *]) rfl ⟨rfl, bx B1.out⟩
  | true =>
    have hln : (scoresOf win).length ≤ 1000 := Nat.le_trans (scoresOf_len win) (by omega)
    have hlt0 := lineT_few (s := ⟨c0, c1, c2, c3, c4, c5, c6, c7, c8, c9, c10, count, last, seq, win, f, al⟩) hB
    have hly0 := lineT_yes (s := ⟨c0, c1, c2, c3, c4, c5, c6, c7, c8, c9, c10, count, last, seq, win, f, al⟩) hB
    dsimp only at hlt0 hly0
    obtain ⟨⟨⟨X, Y⟩, Z⟩, hXYZ⟩ : ∃ r, lineT ⟨c0, c1, c2, c3, c4, c5, c6, c7, c8, c9, c10, count, last, seq, win, f, al⟩ = r := ⟨_, rfl⟩
    rw [hXYZ] at hlt0 hly0 ⊢
    have HLT := Lib.hid hlt0
    have HLY := Lib.hid hly0
    clear hlt0 hly0 hXYZ
    dsimp only
    have h67 : Ok64 c6 ∧ Ok64 c7 := ⟨hw6, hw⟩
    have HQ := Lib.hid (fun W v (h : PairsR W v (scoresOf win)) => qline_any v (scoresOf win) c6 c7 W h (by omega) hw6 hw)
    have HWN := Lib.hid hwn
    clear hB hS hG hA hwn hfn han h67 hw hw6
    go_enter Tryz.func8, Tryz.ntmps8
    go_upto_region 1 with fail
    have R0 := Lib.hid ((rowz_new (W := w) (T := 28) (cs := #[.int .i64 c0, .int .i64 c1, .int .i64 c2, .int .i64 c3, .int .i64 c4, .int .i64 c5, .int .i64 c6, .int .i64 c7, .int .i64 c8, .int .i64 c9, .int .i64 c10, .int .i64 count, .int .i64 last, .int .i64 seq, .slice wa wn wc, .slice fa fn fc, .slice aa an ac]) rfl).alloc (.cells #[.int .i64 0, .int .i64 0] 32))
    refine wp_region_lit ?_
    refine loadRow rfl 28 _ rfl R0.out (by rfl) Tryz.underlying28 rfl (by kernel_rfl) ?_
    (try simp only [Act.put, List.setIfInBounds_toArray, List.set_cons_zero, List.set_cons_succ])
    go_wp2_with fail
    (with_reducible refine (HR.out _ (HS.out.below bw) (HG.out.below bw) (HA.out.below bw)).mono ?_); rintro e w1 ⟨rfl, b1, bx1⟩; have s1 : w.heap.size + 1 + 1 ≤ w1.heap.size := sz b1; have B1 := Lib.hid (Bc (B := w.heap.size) (a := w) bw b1); have c1_0 : w1.cell? ⟨w.heap.size, 3, none⟩ = some (.int .i64 c3) := kC b1; have c1_1 : w1.cell? ⟨w.heap.size, 14, none⟩ = some (.slice wa wn wc) := kC b1; have c1_2 : w1.cell? ⟨w.heap.size, 6, none⟩ = some (.int .i64 c6) := kC b1; have c1_3 : w1.cell? ⟨w.heap.size, 7, none⟩ = some (.int .i64 c7) := kC b1; obtain ⟨c1_4, f1_4, c1_5, f1_5⟩ := k2f (w.heap.size + 1) (.int .i64 0) (.int .i64 0) b1 (by and_intros <;> go_simp); obtain ⟨l1_0, n1_0, m1_0⟩ := lnm (show w.heap.size < w1.heap.size by omega); obtain ⟨l1_1, n1_1, m1_1⟩ := lnm (show w.heap.size + 1 < w1.heap.size by omega); clear b1
    clear bx1
    go_wp2_with fail
    go_loopw [4, 6, 16] (fun lv _ iv wr => ∃ k : Nat, iv = .int .i64 (k : Int) ∧ k ≤ wn ∧ wr.ownsRow w1.heap.size 32 2 lv (scoresOf (win.take k)).length ((scoresOf (win.take k)).flatMap pairF) ∧ Below w1.heap.size w1 wr) (fun _ _ iv _ => wn - (intOf iv).toNat)
    case atStart => exact ⟨0, rfl, Nat.zero_le _, World.ownsRow_nil _ _ _ _, Below.refl _ _⟩
    case round =>
      obtain ⟨k, rfl, hk, hown, hb2⟩ := hrel
      rename World => w2
      have HO := Lib.hid hown
      have BI := Lib.hid hb2
      have B2 := Lib.hid (show Below w.heap.size w w2 from B1.out.trans (hb2.mono B1.out.size))
      have s2 := hb2.size
      by_cases hlt : k < wn
      · obtain ⟨⟨i, x, p, q, s⟩, ht⟩ := getElem?_ex (l := win) (k := k) (by rw [HWN.out]; exact hlt)
        obtain ⟨b, o, xa, xc, e, hbb, x0, x1, x2, x3, x4, hx⟩ := (HS.out.below B2.out).at ht
        subst e
        dsimp only at x0 x1 x2 x3 x4 hx
        have i1 : (0 : Int) ≤ (k : Int) := by omega
        have i2 : (k : Int) < (wn : Int) := by omega
        have HLT' := Lib.hid hlt
        have hl2 : (scoresOf (win.take k)).length ≤ wn := by
          refine Nat.le_trans (scoresOf_len _) ?_
          rw [List.length_take, HWN.out]; omega
        have HLN := Lib.hid hl2
        cases s with
        | false =>
          have HTK := Lib.hid (scoresOf_no ht rfl)
          clear hx ht hown hb2 hlt hl2
          go_wp2_with fail
          go_roundw
          case rel => exact ⟨k + 1, by go_num, by have := HLT'.out; omega, by rw [HTK.out]; exact own_keep HO.out (fun g _ hg => (show Below w2.heap.size w2 _ from bw).block g hg), (show Below w1.heap.size w1 _ from bx BI.out)⟩
          case measure => have := HLT'.out; simp [intOf] <;> omega
        | true =>
          have HTK := Lib.hid (scoresOf_yes ht rfl)
          dsimp only at HTK
          obtain ⟨m, hm⟩ : ∃ m, (scoresOf (win.take k)).length = m := ⟨_, rfl⟩
          obtain ⟨XS, hXS⟩ : ∃ XS, (scoresOf (win.take k)).flatMap pairF = XS := ⟨_, rfl⟩
          rw [hm, hXS] at HO
          rw [hm] at hl2
          have HM := Lib.hid hm
          have HXS := Lib.hid hXS
          clear hx ht hown hb2 hlt HLN hm hXS
          go_wp2_with (at_builtin; go_must (refine app1 rfl _ _ 53 rfl Tryz.underlying53 eiScore w1.heap.size (by rfl) (own_keep HO.out ?_) (C := 1) (by simp [Act.eval]) rfl (by simp [Value.oneCell']) (by omega) (by first | omega | (simp; done) | (simp; omega)) ?_))
          · exact fun g _ hg => (show Below w2.heap.size w2 _ from bw).block g hg
          intro v5 w5 hown5 hb5 _
          have OWN5 := Lib.hid hown5
          have B5 := Lib.hid (show Below w1.heap.size w1 w5 from below_tr (bx BI.out) hb5)
          clear hown5 hb5
          go_wp2_with fail
          go_roundw
          case rel => exact ⟨k + 1, by go_num, by have := HLT'.out; omega, by rw [HTK.out, List.length_append, List.flatMap_append, HM.out, HXS.out]; exact OWN5.out, B5.out⟩
          case measure => have := HLT'.out; simp [intOf] <;> omega
      · obtain rfl : wn = k := by omega
        rw [List.take_of_length_le (by rw [HWN.out]; exact Nat.le_refl _)] at hown
        have P2 := Lib.hid (own_pairs hown rfl (by omega))
        obtain ⟨l, hl⟩ : ∃ l, scoresOf win = l := ⟨_, rfl⟩
        rw [hl] at hown hln HLT HLY HQ P2
        obtain ⟨m, hm⟩ : ∃ m, l.length = m := ⟨_, rfl⟩
        rw [hm] at hown hln HLT HLY
        obtain ⟨oa, om, oc, rfl⟩ := own_shape hown
        obtain rfl : m = om := by have := P2.out; obtain ⟨_, _, e, _⟩ := this; injection e with e1 e2 e3; rw [← hm]; exact e2.symm
        (have c2_0 : w2.cell? ⟨w.heap.size, 3, none⟩ = some (.int .i64 c3) := kC hb2); (have c2_1 : w2.cell? ⟨w.heap.size, 14, none⟩ = some (.slice wa wn wc) := kC hb2); (have c2_2 : w2.cell? ⟨w.heap.size, 6, none⟩ = some (.int .i64 c6) := kC hb2); (have c2_3 : w2.cell? ⟨w.heap.size, 7, none⟩ = some (.int .i64 c7) := kC hb2); (obtain ⟨c2_4, f2_4, c2_5, f2_5⟩ := k2f (w.heap.size + 1) (.int .i64 0) (.int .i64 0) hb2 (by and_intros <;> go_simp)); (obtain ⟨l2_0, n2_0, m2_0⟩ := lnm (show w.heap.size < w2.heap.size by first | omega | (simp at y2; omega))); (obtain ⟨l2_1, n2_1, m2_1⟩ := lnm (show w.heap.size + 1 < w2.heap.size by first | omega | (simp at y2; omega)))
        clear hown hb2 hl hm HO BI hlt hk
        by_cases hlt : (m : Int) < c3
        · have e0 := HLT.out hlt
          injection e0 with e1 e2
          injection e1 with e3 e4
          subst e2 e3 e4
          clear HLT HLY HQ
          go_wp2_with fail
          exact bodyPost_ret (v := .tuple #[.agg #[.int .i64 0, .int .i64 0], .bool false]) (by simp [results, Tryz.results8, go_sem, *]) rfl ⟨rfl, bx B2.out⟩
        · have e0 := HLY.out (by omega)
          injection e0 with e1 e2
          have HQ2 := Lib.hid (fun W v (h : PairsR W v l) => HQ.out W v h)
          rw [← e1] at HQ2
          have HZ := Lib.hid e2
          clear HLT HLY HQ e1 e2
          dsimp only at HQ2
          generalize lineE l c6 c7 = E at *
          by_cases hE : E = 0
          · subst hE
            go_wp2_with fail
            (with_reducible refine (HQ2.out _ _ (P2.out.below bw)).mono ?_); rintro e w3 ⟨rfl, b3⟩; have s3 : w2.heap.size ≤ w3.heap.size := sz b3; have B3 := Lib.hid (Bc (B := w.heap.size) (a := w) (bx B2.out) b3); obtain ⟨c3_0, f3_0, c3_1, f3_1⟩ := k2f (w.heap.size + 1) (.int .i64 0) (.int .i64 0) b3 (by and_intros <;> go_simp); obtain ⟨l3_0, n3_0, m3_0⟩ := lnm (show w.heap.size + 1 < w3.heap.size by omega); clear b3
            go_wp2_with fail
            exact bodyPost_ret (v := .tuple #[.agg #[.int .i64 X, .int .i64 Y], .bool true]) (by simp [results, Tryz.results8, go_sem, *]) rfl ⟨by rw [HZ.out]; rfl, bx B3.out⟩
          · have j1 : (E == 0) = false := by rw [beq_eq_false_iff_ne]; exact hE
            have HE := Lib.hid hE
            clear hE
            go_wp2_with fail
            (with_reducible refine (HQ2.out _ _ (P2.out.below bw)).mono ?_); rintro e w3 ⟨rfl, b3⟩; have s3 : w2.heap.size ≤ w3.heap.size := sz b3; have B3 := Lib.hid (Bc (B := w.heap.size) (a := w) (bx B2.out) b3); obtain ⟨c3_0, f3_0, c3_1, f3_1⟩ := k2f (w.heap.size + 1) (.int .i64 0) (.int .i64 0) b3 (by and_intros <;> go_simp); obtain ⟨l3_0, n3_0, m3_0⟩ := lnm (show w.heap.size + 1 < w3.heap.size by omega); clear b3
            go_wp2_with fail
            exact bodyPost_ret (v := .tuple #[.agg #[.int .i64 X, .int .i64 Y], .bool false]) (by simp [results, Tryz.results8, go_sem, *]) rfl ⟨by rw [HZ.out, decide_eq_false HE.out], bx B3.out⟩
end Go.Proofs.YtgobbecpnjelmaaGreat
