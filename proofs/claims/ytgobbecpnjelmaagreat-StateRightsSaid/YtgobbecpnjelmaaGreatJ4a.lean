/-
  StateQ: Walks of copseref17.Much and copseref28.Much.
  StateJ: Walk of copseref28.Right.
  LawU: Plain: the usual state that took nothing.
-/
import Derived.Test.YtgobbecpnjelmaaGreatKStateD
import Derived.Test.YtgobbecpnjelmaaGreatJ3a
import Derived.Test.YtgobbecpnjelmaaGreatKStateF
import Derived.Test.YtgobbecpnjelmaaGreatKStateG
import Derived.Test.YtgobbecpnjelmaaGreatKStateH
import Derived.Test.YtgobbecpnjelmaaGreatKStateI
namespace Go.Proofs.YtgobbecpnjelmaaGreat
open Go.RowKit

def muchS (l : List SeenT) (n : Int) : Bool := decide (n < l.length) || l.any (fun t => decide (20 < t.2.1.length))

set_option maxRecDepth 100000 in
set_option maxHeartbeats 4000000 in
theorem rmuch17_any (v : Value) (l : List SeenT) (z : Int) (w : World) (h : ArgSeens w v l) :
    Calls Tryz.prog 24 #[v, .int .i64 z] w fun e w' => e = .returned (.bool (muchS l z)) ∧ Below w.heap.size w w' := by
  have HA := Lib.hid h
  obtain ⟨a, c, rfl, p1, p2, _⟩ := h
  obtain ⟨n, hn⟩ : ∃ n, l.length = n := ⟨_, rfl⟩
  rw [hn] at p1 HA ⊢
  have HN := Lib.hid hn
  clear hn
  by_cases hz : z < (n : Int)
  · have HW := Lib.hid (show muchS l z = true from by unfold muchS; rw [HN.out, decide_eq_true hz]; rfl)
    go_enter Tryz.func24, Tryz.ntmps24
    go_wp2_with fail
    go_ret
    exact ⟨ret_bool HW.out.symm, bw⟩
  · have HW := Lib.hid (show muchS l z = l.any (fun t => decide (20 < t.2.1.length)) from by unfold muchS; rw [HN.out, decide_eq_false hz]; rfl)
    go_enter Tryz.func24, Tryz.ntmps24
    go_wp2_with fail
    clear hz
    go_loopw [5] (fun iv wr => ∃ k : Nat, iv = .int .i64 (k : Int) ∧ k ≤ n ∧ (l.take k).any (fun t => decide (20 < t.2.1.length)) = false ∧ Below w.heap.size w wr) (fun iv _ => n - (intOf iv).toNat)
    case atStart => exact ⟨0, rfl, Nat.zero_le _, rfl, bw⟩
    case round =>
      obtain ⟨k, rfl, hk, hpre, hbi⟩ := hrel
      rename World => wi
      have BI := Lib.hid hbi
      have HP := Lib.hid hpre
      by_cases hlt : k < n
      · obtain ⟨⟨i, x, P, Q, s⟩, ht⟩ := getElem?_ex (l := l) (k := k) (by have := HN.out; omega)
        obtain ⟨b1, o1, xa, xc, e, hb1, x0, x1, x2, x3, x4, hx⟩ := (HA.out.below hbi).at ht
        subst e
        dsimp only at x0 x1 x2 x3 x4 hx
        have hxl : x.length ≤ 9223372036854775807 := by obtain ⟨_, _, e1, e2, e3, _⟩ := hx; injection e1; omega
        obtain ⟨xn, hxn⟩ : ∃ xn, x.length = xn := ⟨_, rfl⟩
        rw [hxn] at x1 hxl
        have HXN := Lib.hid hxn
        have HT := Lib.hid ht
        have i1 : (0 : Int) ≤ (k : Int) := by omega
        have i2 : (k : Int) < (n : Int) := by omega
        have HLT := Lib.hid hlt
        clear hx ht hpre hbi hlt hxn
        by_cases hg : (20 : Int) < (xn : Int)
        · have HE := Lib.hid (show l.any (fun t => decide (20 < t.2.1.length)) = true from List.any_eq_true.2 ⟨_, List.mem_of_getElem? HT.out, by have := HXN.out; simp only [decide_eq_true_eq]; omega⟩)
          go_wp2_with fail
          go_ret
          exact ⟨ret_bool (by rw [HW.out, HE.out]), bx BI.out⟩
        · have HE := Lib.hid (show (l.take (k + 1)).any (fun t => decide (20 < t.2.1.length)) = false from by
            rw [List.take_add_one, HT.out, List.any_append, HP.out]
            have := HXN.out
            simp
            omega)
          go_wp2_with fail
          go_roundw
          case rel => exact ⟨k + 1, by go_num, by have := HLT.out; omega, HE.out, BI.out⟩
          case measure => have := HLT.out; simp [intOf] <;> omega
      · obtain rfl : k = n := by omega
        have HE := Lib.hid (show l.any (fun t => decide (20 < t.2.1.length)) = false from by
          rw [List.take_of_length_le (by have := HN.out; omega)] at hpre
          exact hpre)
        clear hpre hbi hlt
        go_wp2_with fail
        go_ret
        exact ⟨ret_bool (by rw [HW.out, HE.out]), bx BI.out⟩

def muchSt (win : List SeenT) (f : List (TreeP × Int)) (al : List AlertT) : Bool := muchS win 300 || (muchG f || decide (100 < al.length))

set_option maxRecDepth 100000 in
set_option maxHeartbeats 4000000 in
theorem rmuch28_any (c0 c1 c2 c3 c4 c5 c6 c7 c8 c9 c10 : Int) (count last seq : Int) (wv fv : Value) (aa : Option Addr) (an ac : Nat) (win : List SeenT) (f : List (TreeP × Int)) (al : List AlertT) (w : World) (hS : ArgSeens w wv win) (hG : ArgGrowns w fv f) (hn : al.length = an) :
    Calls Tryz.prog 6 #[.agg #[.int .i64 c0, .int .i64 c1, .int .i64 c2, .int .i64 c3, .int .i64 c4, .int .i64 c5, .int .i64 c6, .int .i64 c7, .int .i64 c8, .int .i64 c9, .int .i64 c10, .int .i64 count, .int .i64 last, .int .i64 seq, wv, fv, .slice aa an ac]] w fun e w' => e = .returned (.bool (muchSt win f al)) ∧ Below w.heap.size w w' := by
  have H1 := Lib.hid (fun W (h : ArgSeens W wv win) => rmuch17_any wv win 300 W h)
  have H2 := Lib.hid (fun W (h : ArgGrowns W fv f) => rmuch14_any fv f W h)
  have HS := Lib.hid hS
  have HG := Lib.hid hG
  unfold muchSt
  rw [hn]
  clear hS hG hn
  generalize muchS win 300 = X1 at *
  generalize muchG f = X2 at *
  cases X1 with
  | true =>
    go_enter Tryz.func6, Tryz.ntmps6
    go_wp2_with fail
    (with_reducible refine (H1.out _ (HS.out.below bw)).mono ?_); rintro e w1 ⟨rfl, b1⟩; have s1 : w.heap.size + 1 ≤ w1.heap.size := sz b1; have B1 := Lib.hid (Bc (B := w.heap.size) (a := w) bw b1); clear b1
    go_wp2_with fail
    go_ret
    exact ⟨rfl, bx B1.out⟩
  | false =>
    cases X2 with
    | true =>
      go_enter Tryz.func6, Tryz.ntmps6
      go_wp2_with fail
      (with_reducible refine (H1.out _ (HS.out.below bw)).mono ?_); rintro e w1 ⟨rfl, b1⟩; have s1 : w.heap.size + 1 ≤ w1.heap.size := sz b1; have B1 := Lib.hid (Bc (B := w.heap.size) (a := w) bw b1); have c1_0 : w1.cell? ⟨w.heap.size, 15, none⟩ = some (fv) := kC b1; obtain ⟨l1_0, n1_0, m1_0⟩ := lnm (show w.heap.size < w1.heap.size by omega); clear b1
      go_wp2_with fail
      (with_reducible refine (H2.out _ (HG.out.below (bx B1.out))).mono ?_); rintro e w2 ⟨rfl, b2⟩; have s2 : w1.heap.size ≤ w2.heap.size := sz b2; have B2 := Lib.hid (Bc (B := w.heap.size) (a := w) (bx B1.out) b2); clear b2
      go_wp2_with fail
      go_ret
      exact ⟨rfl, bx B2.out⟩
    | false =>
      go_enter Tryz.func6, Tryz.ntmps6
      go_wp2_with fail
      (with_reducible refine (H1.out _ (HS.out.below bw)).mono ?_); rintro e w1 ⟨rfl, b1⟩; have s1 : w.heap.size + 1 ≤ w1.heap.size := sz b1; have B1 := Lib.hid (Bc (B := w.heap.size) (a := w) bw b1); have c1_0 : w1.cell? ⟨w.heap.size, 15, none⟩ = some (fv) := kC b1; have c1_1 : w1.cell? ⟨w.heap.size, 16, none⟩ = some (.slice aa an ac) := kC b1; obtain ⟨l1_0, n1_0, m1_0⟩ := lnm (show w.heap.size < w1.heap.size by omega); clear b1
      go_wp2_with fail
      (with_reducible refine (H2.out _ (HG.out.below (bx B1.out))).mono ?_); rintro e w2 ⟨rfl, b2⟩; have s2 : w1.heap.size ≤ w2.heap.size := sz b2; have B2 := Lib.hid (Bc (B := w.heap.size) (a := w) (bx B1.out) b2); have c2_0 : w2.cell? ⟨w.heap.size, 16, none⟩ = some (.slice aa an ac) := kC b2; obtain ⟨l2_0, n2_0, m2_0⟩ := lnm (show w.heap.size < w2.heap.size by omega); clear b2
      go_wp2_with fail
      go_ret
      exact ⟨ret_bool (by simp; try omega), bx B2.out⟩

theorem muchS_small {l : List SeenT} (h : muchS l 300 = false) : l.length ≤ 300 ∧ ∀ t ∈ l, t.2.1.length ≤ 20 := by
  unfold muchS at h
  rw [Bool.or_eq_false_iff, decide_eq_false_iff_not, List.any_eq_false] at h
  refine ⟨by omega, fun t ht => ?_⟩
  have := h.2 t ht
  simp at this
  omega

theorem muchSt_small {win : List SeenT} {f : List (TreeP × Int)} {al : List AlertT} (h : muchSt win f al = false) : (win.length ≤ 300 ∧ ∀ t ∈ win, t.2.1.length ≤ 20) ∧ muchG f = false ∧ al.length ≤ 100 := by
  unfold muchSt at h
  rw [Bool.or_eq_false_iff, Bool.or_eq_false_iff, decide_eq_false_iff_not] at h
  exact ⟨muchS_small h.1, h.2.1, by omega⟩

theorem muchG_no28 {l : List (TreeP × Int)} (h : muchG l = false) : l.length ≤ 30 ∧ ∀ p ∈ l, muchN p.1.nodes = false := by
  unfold muchG muchT at h
  rw [Bool.or_eq_false_iff, decide_eq_false_iff_not, Bool.or_eq_false_iff, List.any_eq_false] at h
  exact ⟨by omega, fun p hp => by simpa using h.2.2 p.1 (List.mem_map.2 ⟨p, hp, rfl⟩)⟩

theorem ArgGrowns.growns28 {w : World} {v : Value} {l : List (TreeP × Int)} (h : ArgGrowns w v l) (hm : muchG l = false) : GrownsR w v l := by
  obtain ⟨a, c, e, h1, h2, h⟩ := h
  obtain ⟨g1, g2⟩ := muchG_no28 hm
  refine ⟨a, c, e, h1, h2, by omega, fun i p hi => ?_⟩
  obtain ⟨b, o, nv, e, hb, c0, c1, c2, hw, hn⟩ := h i p hi
  exact ⟨b, o, nv, e, hb, c0, c1, c2, wf_ok hw, hn.nodes (g2 p (List.mem_of_getElem? hi))⟩
end Go.Proofs.YtgobbecpnjelmaaGreat

namespace Go.Proofs.YtgobbecpnjelmaaGreat
open Go.RowKit

theorem seqLoadRow {P : Program} {ops : Array Oper} {rest : List Oper} {o : Oper} {a : Act} {w : World} {Q : Exit → Act → World → Prop} {b : Nat} {cells : Array Value} (hw : Region.wanted o (yielded ops a.tmps) = true) (ty : TypeId) (x : Operand) (ho : o.op = .load ty x)
    (hx : a.eval x = .pointer (some ⟨b, 0, none⟩)) (hr : w.rangeAt b 0 cells.toList) {d : TypeDesc} (hu : P.underlying ty = some d) (hd : d.isRow = true) (hi : (P.info? ty).map (·.size) = some cells.size)
    (h : wpList P ops Q rest (a.put o.dst (.agg cells)) w) : wpList P ops Q (o :: rest) a w :=
  seqTk hw h (by
    have := run_loadVar_mid (P := P) w b 0 ty cells.toList d hr hu hd (by simpa using hi)
    unfold execOp
    simp only [ho, hx, Instr.loadAt, Instr.sureAddr, Sem.run_bind, Sem.run_pure, Result.andThen_ok, this, Array.toArray_toList])

set_option maxRecDepth 100000 in
set_option maxHeartbeats 16000000 in
theorem rright28_any (c0 c1 c2 c3 c4 c5 c6 c7 c8 c9 c10 : Int) (count last seq : Int) (wa fa aa : Option Addr) (wn wc fn fc an ac : Nat) (win : List SeenT) (f : List (TreeP × Int)) (al : List AlertT) (w : World)
    (hS : SeensR w (.slice wa wn wc) win) (hwn : win.length = wn) (hG : GrownsR w (.slice fa fn fc) f) (hfn : f.length = fn) (hA : AlertsR w (.slice aa an ac) al) (han : al.length = an) :
    Calls Tryz.prog 11 #[.agg #[.int .i64 c0, .int .i64 c1, .int .i64 c2, .int .i64 c3, .int .i64 c4, .int .i64 c5, .int .i64 c6, .int .i64 c7, .int .i64 c8, .int .i64 c9, .int .i64 c10, .int .i64 count, .int .i64 last, .int .i64 seq, .slice wa wn wc, .slice fa fn fc, .slice aa an ac]] w fun e w' => e = .returned (.bool (stateB ⟨c0, c1, c2, c3, c4, c5, c6, c7, c8, c9, c10, count, last, seq, win, f, al⟩)) ∧ Below w.heap.size w w' := by
  obtain ⟨B, hB⟩ : ∃ B, confB11 c0 c1 c2 c3 c4 c5 c6 c7 c8 c9 c10 = B := ⟨_, rfl⟩
  have HSR := Lib.hid (fun W => hB ▸ rright20_any c0 c1 c2 c3 c4 c5 c6 c7 c8 c9 c10 W)
  cases B with
  | false =>
    have HW := Lib.hid (stateB_no ⟨c0, c1, c2, c3, c4, c5, c6, c7, c8, c9, c10, count, last, seq, win, f, al⟩ (.inl hB))
    clear hB
    go_enter Tryz.func11, Tryz.ntmps11
    go_wp2_with fail
    (with_reducible refine (HSR.out _).mono ?_); rintro e w1 ⟨rfl, b1⟩; have s1 : w.heap.size + 1 ≤ w1.heap.size := sz b1; have B1 := Lib.hid (Bc (B := w.heap.size) (a := w) bw b1); clear b1
    go_wp2_with fail
    go_ret
    exact ⟨ret_bool HW.out.symm, bx B1.out⟩
  | true =>
    by_cases hlo : count < 0
    · have HW := Lib.hid (stateB_no ⟨c0, c1, c2, c3, c4, c5, c6, c7, c8, c9, c10, count, last, seq, win, f, al⟩ (.inr (.inl hlo)))
      have hlo2 : ¬ 0 ≤ count := by omega
      clear hB
      go_enter Tryz.func11, Tryz.ntmps11
      go_wp2_with fail
      (with_reducible refine (HSR.out _).mono ?_); rintro e w1 ⟨rfl, b1⟩; have s1 : w.heap.size + 1 ≤ w1.heap.size := sz b1; have B1 := Lib.hid (Bc (B := w.heap.size) (a := w) bw b1); have c1_0 : w1.cell? ⟨w.heap.size, 11, none⟩ = some (.int .i64 count) := kC b1; obtain ⟨l1_0, n1_0, m1_0⟩ := lnm (show w.heap.size < w1.heap.size by omega); clear b1
      go_wp2_with fail
      go_ret
      exact ⟨ret_bool HW.out.symm, bx B1.out⟩
    · by_cases hhi : 1099511627776 < count
      · have HW := Lib.hid (stateB_no ⟨c0, c1, c2, c3, c4, c5, c6, c7, c8, c9, c10, count, last, seq, win, f, al⟩ (.inr (.inr hhi)))
        have hlo2 : 0 ≤ count := by omega
        have hhi2 : ¬ count ≤ 1099511627776 := by omega
        clear hB
        go_enter Tryz.func11, Tryz.ntmps11
        go_wp2_with fail
        (with_reducible refine (HSR.out _).mono ?_); rintro e w1 ⟨rfl, b1⟩; have s1 : w.heap.size + 1 ≤ w1.heap.size := sz b1; have B1 := Lib.hid (Bc (B := w.heap.size) (a := w) bw b1); have c1_0 : w1.cell? ⟨w.heap.size, 11, none⟩ = some (.int .i64 count) := kC b1; obtain ⟨l1_0, n1_0, m1_0⟩ := lnm (show w.heap.size < w1.heap.size by omega); clear b1
        go_wp2_with fail
        go_ret
        exact ⟨ret_bool HW.out.symm, bx B1.out⟩
      · obtain ⟨F, hF⟩ : ∃ F, nextV c3 c4 0 = F := ⟨_, rfl⟩
        have HWI := Lib.hid (fun W (h : SeensR W (.slice wa wn wc) win) => rwindow_any c0 c1 c2 c3 c4 c5 c6 c7 c8 c9 c10 count last seq F wa wn wc (.slice fa fn fc) (.slice aa an ac) win W h hwn ⟨by omega, by omega⟩ hB hF)
        have HTR := Lib.hid (fun W (h : GrownsR W (.slice fa fn fc) f) => rforest28_any c0 c1 c2 c3 c4 c5 c6 c7 c8 c9 c10 count last seq fa fn fc (.slice wa wn wc) (.slice aa an ac) f W h hfn)
        have HAL := Lib.hid (fun W (h : AlertsR W (.slice aa an ac) al) => ralerts_any c0 c1 c2 c3 c4 c5 c6 c7 c8 c9 c10 count last seq aa an ac (.slice fa fn fc) (.slice wa wn wc) al W h han ⟨by omega, by omega⟩)
        have HW0 := stateB_yes ⟨c0, c1, c2, c3, c4, c5, c6, c7, c8, c9, c10, count, last, seq, win, f, al⟩ hB hlo hhi
        rw [show windowB ⟨c0, c1, c2, c3, c4, c5, c6, c7, c8, c9, c10, count, last, seq, win, f, al⟩ = windowG c0 c1 F count last win from by rw [← hF]; rfl, show treesB ⟨c0, c1, c2, c3, c4, c5, c6, c7, c8, c9, c10, count, last, seq, win, f, al⟩ (birthsV (StP.confB ⟨c0, c1, c2, c3, c4, c5, c6, c7, c8, c9, c10, count, last, seq, win, f, al⟩) c2 c3 c4 count).1 = treesG (birthsV (confB11 c0 c1 c2 c3 c4 c5 c6 c7 c8 c9 c10) c2 c3 c4 count).1 c0 c3 f from rfl, show alertsB ⟨c0, c1, c2, c3, c4, c5, c6, c7, c8, c9, c10, count, last, seq, win, f, al⟩ = alertsG c9 count last seq al from rfl] at HW0
        have HW := Lib.hid HW0
        clear HW0
        generalize windowG c0 c1 F count last win = X1 at *
        generalize treesG (birthsV (confB11 c0 c1 c2 c3 c4 c5 c6 c7 c8 c9 c10) c2 c3 c4 count).1 c0 c3 f = X2 at *
        generalize alertsG c9 count last seq al = X3 at *
        have HS := Lib.hid hS
        have HG := Lib.hid hG
        have HA := Lib.hid hA
        have hlo2 : 0 ≤ count := by omega
        have hhi2 : count ≤ 1099511627776 := by omega
        clear hB hF hS hG hA hwn hfn han hlo hhi
        have HSR2 := Lib.hid (fun W => show Calls Tryz.prog 35 #[.agg #[.int .i64 c0, .int .i64 c1, .int .i64 c2, .int .i64 c3, .int .i64 c4, .int .i64 c5, .int .i64 c6, .int .i64 c7, .int .i64 c8, .int .i64 c9, .int .i64 c10]] W fun e w' => e = .returned (.bool true) ∧ Below W.heap.size W w' ∧ Below W.heap.size W w' from dupC (HSR.out W))
        clear HSR
        cases X1 with
        | false =>
          go_enter Tryz.func11, Tryz.ntmps11
          go_wp2_with fail
          have hr0 : RowAt (w.alloc (.cells #[.int .i64 c0, .int .i64 c1, .int .i64 c2, .int .i64 c3, .int .i64 c4, .int .i64 c5, .int .i64 c6, .int .i64 c7, .int .i64 c8, .int .i64 c9, .int .i64 c10, .int .i64 count, .int .i64 last, .int .i64 seq, .slice wa wn wc, .slice fa fn fc, .slice aa an ac] 28)) w.heap.size 28 #[.int .i64 c0, .int .i64 c1, .int .i64 c2, .int .i64 c3, .int .i64 c4, .int .i64 c5, .int .i64 c6, .int .i64 c7, .int .i64 c8, .int .i64 c9, .int .i64 c10, .int .i64 count, .int .i64 last, .int .i64 seq, .slice wa wn wc, .slice fa fn fc, .slice aa an ac] := rowz_new rfl
          (with_reducible refine (HSR2.out _).mono ?_); rintro e w1 ⟨rfl, b1, bx1⟩; have s1 : w.heap.size + 1 ≤ w1.heap.size := sz b1; have B1 := Lib.hid (Bc (B := w.heap.size) (a := w) bw b1); have c1_0 : w1.cell? ⟨w.heap.size, 11, none⟩ = some (.int .i64 count) := kC b1; obtain ⟨l1_0, n1_0, m1_0⟩ := lnm (show w.heap.size < w1.heap.size by omega); clear b1
          have R1 := Lib.hid (hr0.keep bx1 (by simp))
          clear hr0 bx1
          dsimp only
          have hKK := ‹∀ (a : Act) (w : World), wpList _ _ _ _ a w → _›
          refine hKK _ _ ?_
          clear hKK
          (try simp only [Act.put, List.setIfInBounds_toArray, List.set_cons_zero, List.set_cons_succ])
          iterate 11 (refine seqTk (v := ?_) rfl ?_ ?_; rotate_left 2; (focus (first | (go_simp; done) | (go_simp; with_reducible rfl))); (try simp only [Act.put, List.setIfInBounds_toArray, List.set_cons_zero, List.set_cons_succ]))
          refine seqLoadRow rfl 28 _ rfl (by rfl) R1.out.range Tryz.underlying28 rfl (by kernel_rfl) ?_
          (try simp only [Act.put, List.setIfInBounds_toArray, List.set_cons_zero, List.set_cons_succ])
          go_wp2_with fail
          (with_reducible refine (HWI.out _ (HS.out.below (bx B1.out))).mono ?_); rintro e w2 ⟨rfl, b2⟩; have s2 : w1.heap.size ≤ w2.heap.size := sz b2; have B2 := Lib.hid (Bc (B := w.heap.size) (a := w) (bx B1.out) b2); clear b2
          go_wp2_with fail
          go_ret
          exact ⟨ret_bool (by rw [HW.out]; rfl), bx B2.out⟩
        | true =>
          cases X2 with
          | false =>
            go_enter Tryz.func11, Tryz.ntmps11
            go_wp2_with fail
            have hr0 : RowAt (w.alloc (.cells #[.int .i64 c0, .int .i64 c1, .int .i64 c2, .int .i64 c3, .int .i64 c4, .int .i64 c5, .int .i64 c6, .int .i64 c7, .int .i64 c8, .int .i64 c9, .int .i64 c10, .int .i64 count, .int .i64 last, .int .i64 seq, .slice wa wn wc, .slice fa fn fc, .slice aa an ac] 28)) w.heap.size 28 #[.int .i64 c0, .int .i64 c1, .int .i64 c2, .int .i64 c3, .int .i64 c4, .int .i64 c5, .int .i64 c6, .int .i64 c7, .int .i64 c8, .int .i64 c9, .int .i64 c10, .int .i64 count, .int .i64 last, .int .i64 seq, .slice wa wn wc, .slice fa fn fc, .slice aa an ac] := rowz_new rfl
            (with_reducible refine (HSR2.out _).mono ?_); rintro e w1 ⟨rfl, b1, bx1⟩; have s1 : w.heap.size + 1 ≤ w1.heap.size := sz b1; have B1 := Lib.hid (Bc (B := w.heap.size) (a := w) bw b1); have c1_0 : w1.cell? ⟨w.heap.size, 11, none⟩ = some (.int .i64 count) := kC b1; obtain ⟨l1_0, n1_0, m1_0⟩ := lnm (show w.heap.size < w1.heap.size by omega); clear b1
            have R1 := Lib.hid (hr0.keep bx1 (by simp))
            clear hr0 bx1
            dsimp only
            have hKK := ‹∀ (a : Act) (w : World), wpList _ _ _ _ a w → _›
            refine hKK _ _ ?_
            clear hKK
            (try simp only [Act.put, List.setIfInBounds_toArray, List.set_cons_zero, List.set_cons_succ])
            iterate 11 (refine seqTk (v := ?_) rfl ?_ ?_; rotate_left 2; (focus (first | (go_simp; done) | (go_simp; with_reducible rfl))); (try simp only [Act.put, List.setIfInBounds_toArray, List.set_cons_zero, List.set_cons_succ]))
            refine seqLoadRow rfl 28 _ rfl (by rfl) R1.out.range Tryz.underlying28 rfl (by kernel_rfl) ?_
            (try simp only [Act.put, List.setIfInBounds_toArray, List.set_cons_zero, List.set_cons_succ])
            go_wp2_with fail
            (with_reducible refine (dupC (HWI.out _ (HS.out.below (bx B1.out)))).mono ?_); rintro e w2 ⟨rfl, b2, bx2⟩; have s2 : w1.heap.size ≤ w2.heap.size := sz b2; have B2 := Lib.hid (Bc (B := w.heap.size) (a := w) (bx B1.out) b2); clear b2
            have R2 := Lib.hid (R1.out.keep bx2 (by omega))
            clear bx2
            dsimp only
            have hKK := ‹∀ (a : Act) (w : World), wpList _ _ _ _ a w → _›
            refine hKK _ _ ?_
            clear hKK
            (try simp only [Act.put, List.setIfInBounds_toArray, List.set_cons_zero, List.set_cons_succ])
            iterate 2 (refine seqTk (v := ?_) rfl ?_ ?_; rotate_left 2; (focus (first | (go_simp; done) | (go_simp; with_reducible rfl))); (try simp only [Act.put, List.setIfInBounds_toArray, List.set_cons_zero, List.set_cons_succ]))
            refine seqLoadRow rfl 28 _ rfl (by rfl) R2.out.range Tryz.underlying28 rfl (by kernel_rfl) ?_
            (try simp only [Act.put, List.setIfInBounds_toArray, List.set_cons_zero, List.set_cons_succ])
            go_wp2_with fail
            (with_reducible refine (HTR.out _ (HG.out.below (bx B2.out))).mono ?_); rintro e w3 ⟨rfl, b3⟩; have s3 : w2.heap.size ≤ w3.heap.size := sz b3; have B3 := Lib.hid (Bc (B := w.heap.size) (a := w) (bx B2.out) b3); clear b3
            go_wp2_with fail
            go_ret
            exact ⟨ret_bool (by rw [HW.out]; rfl), bx B3.out⟩
          | true =>
            go_enter Tryz.func11, Tryz.ntmps11
            go_wp2_with fail
            have hr0 : RowAt (w.alloc (.cells #[.int .i64 c0, .int .i64 c1, .int .i64 c2, .int .i64 c3, .int .i64 c4, .int .i64 c5, .int .i64 c6, .int .i64 c7, .int .i64 c8, .int .i64 c9, .int .i64 c10, .int .i64 count, .int .i64 last, .int .i64 seq, .slice wa wn wc, .slice fa fn fc, .slice aa an ac] 28)) w.heap.size 28 #[.int .i64 c0, .int .i64 c1, .int .i64 c2, .int .i64 c3, .int .i64 c4, .int .i64 c5, .int .i64 c6, .int .i64 c7, .int .i64 c8, .int .i64 c9, .int .i64 c10, .int .i64 count, .int .i64 last, .int .i64 seq, .slice wa wn wc, .slice fa fn fc, .slice aa an ac] := rowz_new rfl
            (with_reducible refine (HSR2.out _).mono ?_); rintro e w1 ⟨rfl, b1, bx1⟩; have s1 : w.heap.size + 1 ≤ w1.heap.size := sz b1; have B1 := Lib.hid (Bc (B := w.heap.size) (a := w) bw b1); have c1_0 : w1.cell? ⟨w.heap.size, 11, none⟩ = some (.int .i64 count) := kC b1; obtain ⟨l1_0, n1_0, m1_0⟩ := lnm (show w.heap.size < w1.heap.size by omega); clear b1
            have R1 := Lib.hid (hr0.keep bx1 (by simp))
            clear hr0 bx1
            dsimp only
            have hKK := ‹∀ (a : Act) (w : World), wpList _ _ _ _ a w → _›
            refine hKK _ _ ?_
            clear hKK
            (try simp only [Act.put, List.setIfInBounds_toArray, List.set_cons_zero, List.set_cons_succ])
            iterate 11 (refine seqTk (v := ?_) rfl ?_ ?_; rotate_left 2; (focus (first | (go_simp; done) | (go_simp; with_reducible rfl))); (try simp only [Act.put, List.setIfInBounds_toArray, List.set_cons_zero, List.set_cons_succ]))
            refine seqLoadRow rfl 28 _ rfl (by rfl) R1.out.range Tryz.underlying28 rfl (by kernel_rfl) ?_
            (try simp only [Act.put, List.setIfInBounds_toArray, List.set_cons_zero, List.set_cons_succ])
            go_wp2_with fail
            (with_reducible refine (dupC (HWI.out _ (HS.out.below (bx B1.out)))).mono ?_); rintro e w2 ⟨rfl, b2, bx2⟩; have s2 : w1.heap.size ≤ w2.heap.size := sz b2; have B2 := Lib.hid (Bc (B := w.heap.size) (a := w) (bx B1.out) b2); clear b2
            have R2 := Lib.hid (R1.out.keep bx2 (by omega))
            clear bx2
            dsimp only
            have hKK := ‹∀ (a : Act) (w : World), wpList _ _ _ _ a w → _›
            refine hKK _ _ ?_
            clear hKK
            (try simp only [Act.put, List.setIfInBounds_toArray, List.set_cons_zero, List.set_cons_succ])
            iterate 2 (refine seqTk (v := ?_) rfl ?_ ?_; rotate_left 2; (focus (first | (go_simp; done) | (go_simp; with_reducible rfl))); (try simp only [Act.put, List.setIfInBounds_toArray, List.set_cons_zero, List.set_cons_succ]))
            refine seqLoadRow rfl 28 _ rfl (by rfl) R2.out.range Tryz.underlying28 rfl (by kernel_rfl) ?_
            (try simp only [Act.put, List.setIfInBounds_toArray, List.set_cons_zero, List.set_cons_succ])
            go_wp2_with fail
            (with_reducible refine (dupC (HTR.out _ (HG.out.below (bx B2.out)))).mono ?_); rintro e w3 ⟨rfl, b3, bx3⟩; have s3 : w2.heap.size ≤ w3.heap.size := sz b3; have B3 := Lib.hid (Bc (B := w.heap.size) (a := w) (bx B2.out) b3); clear b3
            have R3 := Lib.hid (R2.out.keep bx3 (by omega))
            clear bx3
            dsimp only
            have hKK := ‹∀ (a : Act) (w : World), wpList _ _ _ _ a w → _›
            refine hKK _ _ ?_
            clear hKK
            (try simp only [Act.put, List.setIfInBounds_toArray, List.set_cons_zero, List.set_cons_succ])
            iterate 2 (refine seqTk (v := ?_) rfl ?_ ?_; rotate_left 2; (focus (first | (go_simp; done) | (go_simp; with_reducible rfl))); (try simp only [Act.put, List.setIfInBounds_toArray, List.set_cons_zero, List.set_cons_succ]))
            refine seqLoadRow rfl 28 _ rfl (by rfl) R3.out.range Tryz.underlying28 rfl (by kernel_rfl) ?_
            (try simp only [Act.put, List.setIfInBounds_toArray, List.set_cons_zero, List.set_cons_succ])
            go_wp2_with fail
            (with_reducible refine (HAL.out _ (HA.out.below (bx B3.out))).mono ?_); rintro e w4 ⟨rfl, b4⟩; have s4 : w3.heap.size ≤ w4.heap.size := sz b4; have B4 := Lib.hid (Bc (B := w.heap.size) (a := w) (bx B3.out) b4); clear b4
            go_wp2_with fail
            go_ret
            exact ⟨ret_bool (by rw [HW.out]; simp), bx B4.out⟩
end Go.Proofs.YtgobbecpnjelmaaGreat

namespace Go.Proofs.YtgobbecpnjelmaaGreat
open Go.RowKit

theorem isF_nilU : isF [] = true := by
  unfold isF
  rfl

theorem growns_nilU (w : World) (c : Nat) (hc : c ≤ 9223372036854775807) : GrownsR w (.slice none 0 c) [] := ⟨none, c, rfl, by simp, hc, by simp, fun i p hi => by simp at hi⟩

theorem row_setU {w : World} {b : Nat} {T : TypeId} {cs ds : Array Value} {o : Nat} {v : Value} (h : RowAt w b T cs) (hd : cs.setIfInBounds o v = ds) : RowAt (w.setCell ⟨b, o, none⟩ v) b T ds := hd ▸ h.set o v

/-- The state that took nothing is right. -/
theorem stateB_new (c0 c1 c2 c3 c4 c5 c6 c7 c8 c9 c10 : Int) (h : confB11 c0 c1 c2 c3 c4 c5 c6 c7 c8 c9 c10 = true) : stateB ⟨c0, c1, c2, c3, c4, c5, c6, c7, c8, c9, c10, 0, 0, 0, [], [], []⟩ = true := by
  have hc := (confB11_iff c0 c1 c2 c3 c4 c5 c6 c7 c8 c9 c10).1 h
  have h0 : (birthsV (confB11 c0 c1 c2 c3 c4 c5 c6 c7 c8 c9 c10) c2 c3 c4 0).1 = [] := by
    unfold birthsV
    split
    · rw [upToV_zero (by omega)]
      unfold birthsL
      simp
    · rfl
  rw [stateB_yes ⟨c0, c1, c2, c3, c4, c5, c6, c7, c8, c9, c10, 0, 0, 0, [], [], []⟩ h (by simp) (by simp), Bool.and_eq_true, Bool.and_eq_true]
  refine ⟨⟨?_, ?_⟩, ?_⟩
  · unfold windowB
    rw [Bool.and_eq_true, decide_eq_true_eq, decide_eq_true_eq]
    exact ⟨by show (0 : Int) = min 0 c1; omega, rfl⟩
  · unfold treesB
    rw [show StP.confB ⟨c0, c1, c2, c3, c4, c5, c6, c7, c8, c9, c10, 0, 0, 0, [], [], []⟩ = confB11 c0 c1 c2 c3 c4 c5 c6 c7 c8 c9 c10 from rfl]
    dsimp only
    rw [h0, isF_nilU]
    rfl
  · unfold alertsB
    simp only [Bool.and_eq_true, decide_eq_true_eq]
    exact ⟨⟨⟨by simp, by simp⟩, by show (0 : Int) ≤ min 0 c9; omega⟩, rfl⟩

theorem usual_B : confB11 2 16 2 8 5 1 1 10 4 3 9 = true := by decide

theorem usual_S : stateB ⟨2, 16, 2, 8, 5, 1, 1, 10, 4, 3, 9, 0, 0, 0, [], [], []⟩ = true := stateB_new 2 16 2 8 5 1 1 10 4 3 9 usual_B

theorem usual_O : stateB ⟨2, 16, 2, 8, 5, 1, 1, 10, 4, 3, 9, 1, 0, 0, [], [], []⟩ = false := by
  cases h : stateB ⟨2, 16, 2, 8, 5, 1, 1, 10, 4, 3, 9, 1, 0, 0, [], [], []⟩ with
  | false => rfl
  | true =>
    unfold stateB at h
    simp only [Bool.and_eq_true] at h
    have hw := h.2.1.1
    unfold windowB at hw
    simp only [Bool.and_eq_true, decide_eq_true_eq] at hw
    exact absurd hw.1 (by decide)
end Go.Proofs.YtgobbecpnjelmaaGreat
