/-
  StateN: Walk of state.Same.
  StateQ: Walks of copseref17.Much and copseref28.Much.
  StateJ: Walk of copseref28.Right.
  LawU: Plain: the usual state that took nothing.
  StateR: Walks of copseref28.Scores, copseref28.Line and state.Line.
  AlertB: Walks of item.PutAlert and of the reference's Alert, of a right alert.
  StateS: Plain: the bytes of a state, how many they are, what is read of them.
  ForU: Walks of copseref14.With and copseref14.Put.
  ForV: Walk of copseref14.Put.
  ForW: Walk of forest.Put.
  WoodF: Walk of the reference's node.
  StateZ: Walks of state.Line and state.Same at the usual way to work, where nothing was taken.
-/
import Derived.Test.YtgobbecpnjelmaaGreatKStateL
import Derived.Test.YtgobbecpnjelmaaGreatKStateM
import Derived.Test.YtgobbecpnjelmaaGreatKForT
import Derived.Test.YtgobbecpnjelmaaGreatKStateD
import Derived.Test.YtgobbecpnjelmaaGreatJ3a
import Derived.Test.YtgobbecpnjelmaaGreatKStateF
import Derived.Test.YtgobbecpnjelmaaGreatKStateG
import Derived.Test.YtgobbecpnjelmaaGreatKStateH
import Derived.Test.YtgobbecpnjelmaaGreatKStateI
import Derived.Test.YtgobbecpnjelmaaGreatJ0c
import Derived.Test.YtgobbecpnjelmaaGreatKAlertA
import Derived.Test.YtgobbecpnjelmaaGreatJ0b
import Derived.Test.YtgobbecpnjelmaaGreatJ2b
import Derived.Test.YtgobbecpnjelmaaGreatJ1a
import Derived.Test.YtgobbecpnjelmaaGreatKForG
import Derived.Test.YtgobbecpnjelmaaGreatKWoodE
import Derived.Test.YtgobbecpnjelmaaGreatJ0a
namespace Go.Proofs.YtgobbecpnjelmaaGreat
open Go.RowKit

/-- Are two states the same? -/
noncomputable def sameSt (s t : StP) : Bool := decide (([s.c0, s.c1, s.c2, s.c3, s.c4, s.c5, s.c6, s.c7, s.c8, s.c9, s.c10, s.count, s.last, s.seq] : List Int) = [t.c0, t.c1, t.c2, t.c3, t.c4, t.c5, t.c6, t.c7, t.c8, t.c9, t.c10, t.count, t.last, t.seq]) && (decide (s.win = t.win) && (sameF s.forest t.forest && decide (s.alerts = t.alerts)))

end Go.Proofs.YtgobbecpnjelmaaGreat

namespace Go.Proofs.YtgobbecpnjelmaaGreat
open Go.RowKit

def muchS (l : List SeenT) (n : Int) : Bool := decide (n < l.length) || l.any (fun t => decide (20 < t.2.1.length))

set_option maxRecDepth 100000 in
set_option maxHeartbeats 4000000 in
theorem rmuch17_any (v : Value) (l : List SeenT) (z : Int) (w : World) (h : ArgSeens w v l) :
  Calls Tryz.prog 24 #[v, .int .i64 z] w fun e w' => e = .returned (.bool (muchS l z)) ∧ Below w.heap.size w w' := by
 have HA := hH h
 obtain ⟨a, c, rfl, p1, p2, _⟩ := h
 obtain ⟨n, hn⟩ : ∃ n, l.length = n := ⟨_, rfl⟩
 rw [hn] at p1 HA ⊢
 have HN := hH hn
 clear hn
 by_cases hz : z < (n : Int)
 ·have HW := hH (show muchS l z = true from by unfold muchS; rw [HN.out, decide_eq_true hz]; rfl)
  go_enter Tryz.func24, Tryz.ntmps24
  go_wp2_with fail
  go_ret
  exact ⟨ret_bool HW.out.symm, bw⟩
 ·have HW := hH (show muchS l z = l.any (fun t => decide (20 < t.2.1.length)) from by unfold muchS; rw [HN.out, decide_eq_false hz]; rfl)
  go_enter Tryz.func24, Tryz.ntmps24
  go_wp2_with fail
  clear hz
  go_loopw [5] (fun iv wr => ∃ k : Nat, iv = .int .i64 (k : Int) ∧ k ≤ n ∧ (l.take k).any (fun t => decide (20 < t.2.1.length)) = false ∧ Below w.heap.size w wr) (fun iv _ => n - (intOf iv).toNat)
  case atStart => exact ⟨0, rfl, Nat.zero_le _, rfl, bw⟩
  case round =>
   obtain ⟨k, rfl, hk, hpre, hbi⟩ := hrel
   rename World => wi
   have BI := hH hbi
   have HP := hH hpre
   by_cases hlt : k < n
   ·obtain ⟨⟨i, x, P, Q, s⟩, ht⟩ := getElem?_ex (l := l) (k := k) (by have := HN.out; omega)
    obtain ⟨b1, o1, xa, xc, e, hb1, x0, x1, x2, x3, x4, hx⟩ := (HA.out.below hbi).at ht
    subst e
    dsimp only at x0 x1 x2 x3 x4 hx
    have hxl : x.length ≤ 9223372036854775807 := by obtain ⟨_, _, e1, e2, e3, _⟩ := hx; injection e1; omega
    obtain ⟨xn, hxn⟩ : ∃ xn, x.length = xn := ⟨_, rfl⟩
    rw [hxn] at x1 hxl
    have HXN := hH hxn
    have HT := hH ht
    have i1 : (0 : Int) ≤ (k : Int) := by omega
    have i2 : (k : Int) < (n : Int) := by omega
    have HLT := hH hlt
    clear hx ht hpre hbi hlt hxn
    by_cases hg : (20 : Int) < (xn : Int)
    ·have HE := hH (show l.any (fun t => decide (20 < t.2.1.length)) = true from List.any_eq_true.2 ⟨_, List.mem_of_getElem? HT.out, by have := HXN.out; simp only [decide_eq_true_eq]; omega⟩)
     go_wp2_with fail
     go_ret
     exact ⟨ret_bool (by rw [HW.out, HE.out]), bx BI.out⟩
    ·have HE := hH (show (l.take (k + 1)).any (fun t => decide (20 < t.2.1.length)) = false from by
      rw [List.take_add_one, HT.out, List.any_append, HP.out]
      have := HXN.out
      simp
      omega)
     go_wp2_with fail
     go_roundw
     case rel => exact ⟨k + 1, by go_num, by have := HLT.out; omega, HE.out, BI.out⟩
     case measure => have := HLT.out; simp [intOf] <;> omega
   ·obtain rfl : k = n := by omega
    have HE := hH (show l.any (fun t => decide (20 < t.2.1.length)) = false from by
     rw [List.take_of_length_le (by have := HN.out; omega)] at hpre
     exact hpre)
    clear hpre hbi hlt
    go_wp2_with fail
    go_ret
    exact ⟨ret_bool (by rw [HW.out, HE.out]), bx BI.out⟩

def muchSt (win : List SeenT) (f : List (TreeP × Int)) (al : List AlertT) : Bool := muchS win 300 || (muchG f || decide (100 < al.length))

set_option maxRecDepth 100000 in
set_option maxHeartbeats 4000000 in
theorem rmuch28_any (c0 c1 c2 c3 c4 c5 c6 c7 c8 c9 c10 : Int) (count last seq : Int) (wv fv : Value) (aa : Option Addr) (an ac : Nat) (win : List SeenT) (f : List (TreeP × Int)) (al : List AlertT) (w : World) (hS : ArgSeens w wv win) (hG : ArgGrowns w fv f) (hn : al.length = an) :
  Calls Tryz.prog 6 #[.agg #[.int .i64 c0, .int .i64 c1, .int .i64 c2, .int .i64 c3, .int .i64 c4, .int .i64 c5, .int .i64 c6, .int .i64 c7, .int .i64 c8, .int .i64 c9, .int .i64 c10, .int .i64 count, .int .i64 last, .int .i64 seq, wv, fv, .slice aa an ac]] w fun e w' => e = .returned (.bool (muchSt win f al)) ∧ Below w.heap.size w w' := by
 have H1 := hH (fun W (h : ArgSeens W wv win) => rmuch17_any wv win 300 W h)
 have H2 := hH (fun W (h : ArgGrowns W fv f) => rmuch14_any fv f W h)
 have HS := hH hS
 have HG := hH hG
 unfold muchSt
 rw [hn]
 clear hS hG hn
 generalize muchS win 300 = X1 at *
 generalize muchG f = X2 at *
 cases X1 with
 | true =>
  go_enter Tryz.func6, Tryz.ntmps6
  go_wp2_with fail
  (with_reducible refine (H1.out _ (HS.out.below bw)).mono ?_); rintro e w1 ⟨rfl, b1⟩; have s1 : w.heap.size + 1 ≤ w1.heap.size := sz b1; have B1 := hJ w b1; clear b1
  go_wp2_with fail
  go_ret
  exact ⟨rfl, bx B1.out⟩
 | false =>
  cases X2 with
  | true =>
   go_enter Tryz.func6, Tryz.ntmps6
   go_wp2_with fail
   (with_reducible refine (H1.out _ (HS.out.below bw)).mono ?_); rintro e w1 ⟨rfl, b1⟩; have s1 : w.heap.size + 1 ≤ w1.heap.size := sz b1; have B1 := hJ w b1; have c1_0 : w1.cell? ⟨w.heap.size, 15, none⟩ = some (fv) := kC b1; obtain ⟨l1_0, n1_0, m1_0⟩ := lnm (show w.heap.size < w1.heap.size by omega); clear b1
   go_wp2_with fail
   (with_reducible refine (H2.out _ (HG.out.below (bx B1.out))).mono ?_); rintro e w2 ⟨rfl, b2⟩; have s2 : w1.heap.size ≤ w2.heap.size := sz b2; have B2 := bJ B1.out b2; clear b2
   go_wp2_with fail
   go_ret
   exact ⟨rfl, bx B2.out⟩
  | false =>
   go_enter Tryz.func6, Tryz.ntmps6
   go_wp2_with fail
   (with_reducible refine (H1.out _ (HS.out.below bw)).mono ?_); rintro e w1 ⟨rfl, b1⟩; have s1 : w.heap.size + 1 ≤ w1.heap.size := sz b1; have B1 := hJ w b1; have c1_0 : w1.cell? ⟨w.heap.size, 15, none⟩ = some (fv) := kC b1; have c1_1 : w1.cell? ⟨w.heap.size, 16, none⟩ = some (.slice aa an ac) := kC b1; obtain ⟨l1_0, n1_0, m1_0⟩ := lnm (show w.heap.size < w1.heap.size by omega); clear b1
   go_wp2_with fail
   (with_reducible refine (H2.out _ (HG.out.below (bx B1.out))).mono ?_); rintro e w2 ⟨rfl, b2⟩; have s2 : w1.heap.size ≤ w2.heap.size := sz b2; have B2 := bJ B1.out b2; have c2_0 : w2.cell? ⟨w.heap.size, 16, none⟩ = some (.slice aa an ac) := kC b2; obtain ⟨l2_0, n2_0, m2_0⟩ := lnm (show w.heap.size < w2.heap.size by omega); clear b2
   go_wp2_with fail
   go_ret
   exact ⟨ret_bool (by simp; try omega), bx B2.out⟩

theorem muchS_small {l : List SeenT} (h : muchS l 300 = false) : l.length ≤ 300 ∧ ∀ t ∈ l, t.2.1.length ≤ 20 := by
 unfold muchS at h
 rw [Bool.or_eq_false_iff, decide_eq_false_iff_not, List.any_eq_false] at h
 refine ⟨by omega, fun t ht => ?_⟩
 have := h.2 t ht
 simp at this
 omega

theorem muchSt_small {win : List SeenT} {f : List (TreeP × Int)} {al : List AlertT} (h : muchSt win f al = false) : (win.length ≤ 300 ∧ ∀ t ∈ win, t.2.1.length ≤ 20) ∧ muchG f = false ∧ al.length ≤ 100 := by
 unfold muchSt at h
 rw [Bool.or_eq_false_iff, Bool.or_eq_false_iff, decide_eq_false_iff_not] at h
 exact ⟨muchS_small h.1, h.2.1, by omega⟩

theorem muchG_no28 {l : List (TreeP × Int)} (h : muchG l = false) : l.length ≤ 30 ∧ ∀ p ∈ l, muchN p.1.nodes = false := by
 unfold muchG muchT at h
 rw [Bool.or_eq_false_iff, decide_eq_false_iff_not, Bool.or_eq_false_iff, List.any_eq_false] at h
 exact ⟨by omega, fun p hp => by simpa using h.2.2 p.1 (List.mem_map.2 ⟨p, hp, rfl⟩)⟩

theorem ArgGrowns.growns28 {w : World} {v : Value} {l : List (TreeP × Int)} (h : ArgGrowns w v l) (hm : muchG l = false) : GrownsR w v l := by
 obtain ⟨a, c, e, h1, h2, h⟩ := h
 obtain ⟨g1, g2⟩ := muchG_no28 hm
 refine ⟨a, c, e, h1, h2, by omega, fun i p hi => ?_⟩
 obtain ⟨b, o, nv, e, hb, c0, c1, c2, hw, hn⟩ := h i p hi
 exact ⟨b, o, nv, e, hb, c0, c1, c2, wf_ok hw, hn.nodes (g2 p (List.mem_of_getElem? hi))⟩
end Go.Proofs.YtgobbecpnjelmaaGreat

namespace Go.Proofs.YtgobbecpnjelmaaGreat
open Go.RowKit

theorem seqLoadRow {P : Program} {ops : Array Oper} {rest : List Oper} {o : Oper} {a : Act} {w : World} {Q : Exit → Act → World → Prop} {b : Nat} {cells : Array Value} (hw : Region.wanted o (yielded ops a.tmps) = true) (ty : TypeId) (x : Operand) (ho : o.op = .load ty x)
  (hx : a.eval x = .pointer (some ⟨b, 0, none⟩)) (hr : w.rangeAt b 0 cells.toList) {d : TypeDesc} (hu : P.underlying ty = some d) (hd : d.isRow = true) (hi : (P.info? ty).map (·.size) = some cells.size)
  (h : wpList P ops Q rest (a.put o.dst (.agg cells)) w) : wpList P ops Q (o :: rest) a w :=
 seqTk hw h (by
  have := run_loadVar_mid (P := P) w b 0 ty cells.toList d hr hu hd (by simpa using hi)
  unfold execOp
  simp only [ho, hx, Instr.loadAt, Instr.sureAddr, Sem.run_bind, Sem.run_pure, Result.andThen_ok, this, Array.toArray_toList])

set_option maxRecDepth 100000 in
set_option maxHeartbeats 16000000 in
theorem rright28_any (c0 c1 c2 c3 c4 c5 c6 c7 c8 c9 c10 : Int) (count last seq : Int) (wa fa aa : Option Addr) (wn wc fn fc an ac : Nat) (win : List SeenT) (f : List (TreeP × Int)) (al : List AlertT) (w : World)
  (hS : SeensR w (.slice wa wn wc) win) (hwn : win.length = wn) (hG : GrownsR w (.slice fa fn fc) f) (hfn : f.length = fn) (hA : AlertsR w (.slice aa an ac) al) (han : al.length = an) :
  Calls Tryz.prog 11 #[.agg #[.int .i64 c0, .int .i64 c1, .int .i64 c2, .int .i64 c3, .int .i64 c4, .int .i64 c5, .int .i64 c6, .int .i64 c7, .int .i64 c8, .int .i64 c9, .int .i64 c10, .int .i64 count, .int .i64 last, .int .i64 seq, .slice wa wn wc, .slice fa fn fc, .slice aa an ac]] w fun e w' => e = .returned (.bool (stateB ⟨c0, c1, c2, c3, c4, c5, c6, c7, c8, c9, c10, count, last, seq, win, f, al⟩)) ∧ Below w.heap.size w w' := by
 obtain ⟨B, hB⟩ : ∃ B, confB11 c0 c1 c2 c3 c4 c5 c6 c7 c8 c9 c10 = B := ⟨_, rfl⟩
 have HSR := hH (fun W => hB ▸ rright20_any c0 c1 c2 c3 c4 c5 c6 c7 c8 c9 c10 W)
 cases B with
 | false =>
  have HW := hH (stateB_no ⟨c0, c1, c2, c3, c4, c5, c6, c7, c8, c9, c10, count, last, seq, win, f, al⟩ (.inl hB))
  clear hB
  go_enter Tryz.func11, Tryz.ntmps11
  go_wp2_with fail
  (with_reducible refine (HSR.out _).mono ?_); rintro e w1 ⟨rfl, b1⟩; have s1 : w.heap.size + 1 ≤ w1.heap.size := sz b1; have B1 := hJ w b1; clear b1
  go_wp2_with fail
  go_ret
  exact ⟨ret_bool HW.out.symm, bx B1.out⟩
 | true =>
  by_cases hlo : count < 0
  ·have HW := hH (stateB_no ⟨c0, c1, c2, c3, c4, c5, c6, c7, c8, c9, c10, count, last, seq, win, f, al⟩ (.inr (.inl hlo)))
   have hlo2 : ¬ 0 ≤ count := by omega
   clear hB
   go_enter Tryz.func11, Tryz.ntmps11
   go_wp2_with fail
   (with_reducible refine (HSR.out _).mono ?_); rintro e w1 ⟨rfl, b1⟩; have s1 : w.heap.size + 1 ≤ w1.heap.size := sz b1; have B1 := hJ w b1; have c1_0 : w1.cell? ⟨w.heap.size, 11, none⟩ = some (.int .i64 count) := kC b1; obtain ⟨l1_0, n1_0, m1_0⟩ := lnm (show w.heap.size < w1.heap.size by omega); clear b1
   go_wp2_with fail
   go_ret
   exact ⟨ret_bool HW.out.symm, bx B1.out⟩
  ·by_cases hhi : 1099511627776 < count
   ·have HW := hH (stateB_no ⟨c0, c1, c2, c3, c4, c5, c6, c7, c8, c9, c10, count, last, seq, win, f, al⟩ (.inr (.inr hhi)))
    have hlo2 : 0 ≤ count := by omega
    have hhi2 : ¬ count ≤ 1099511627776 := by omega
    clear hB
    go_enter Tryz.func11, Tryz.ntmps11
    go_wp2_with fail
    (with_reducible refine (HSR.out _).mono ?_); rintro e w1 ⟨rfl, b1⟩; have s1 : w.heap.size + 1 ≤ w1.heap.size := sz b1; have B1 := hJ w b1; have c1_0 : w1.cell? ⟨w.heap.size, 11, none⟩ = some (.int .i64 count) := kC b1; obtain ⟨l1_0, n1_0, m1_0⟩ := lnm (show w.heap.size < w1.heap.size by omega); clear b1
    go_wp2_with fail
    go_ret
    exact ⟨ret_bool HW.out.symm, bx B1.out⟩
   ·obtain ⟨F, hF⟩ : ∃ F, nextV c3 c4 0 = F := ⟨_, rfl⟩
    have HWI := hH (fun W (h : SeensR W (.slice wa wn wc) win) => rwindow_any c0 c1 c2 c3 c4 c5 c6 c7 c8 c9 c10 count last seq F wa wn wc (.slice fa fn fc) (.slice aa an ac) win W h hwn ⟨by omega, by omega⟩ hB hF)
    have HTR := hH (fun W (h : GrownsR W (.slice fa fn fc) f) => rforest28_any c0 c1 c2 c3 c4 c5 c6 c7 c8 c9 c10 count last seq fa fn fc (.slice wa wn wc) (.slice aa an ac) f W h hfn)
    have HAL := hH (fun W (h : AlertsR W (.slice aa an ac) al) => ralerts_any c0 c1 c2 c3 c4 c5 c6 c7 c8 c9 c10 count last seq aa an ac (.slice fa fn fc) (.slice wa wn wc) al W h han ⟨by omega, by omega⟩)
    have HW0 := stateB_yes ⟨c0, c1, c2, c3, c4, c5, c6, c7, c8, c9, c10, count, last, seq, win, f, al⟩ hB hlo hhi
    rw [show windowB ⟨c0, c1, c2, c3, c4, c5, c6, c7, c8, c9, c10, count, last, seq, win, f, al⟩ = windowG c0 c1 F count last win from by rw [← hF]; rfl, show treesB ⟨c0, c1, c2, c3, c4, c5, c6, c7, c8, c9, c10, count, last, seq, win, f, al⟩ (birthsV (StP.confB ⟨c0, c1, c2, c3, c4, c5, c6, c7, c8, c9, c10, count, last, seq, win, f, al⟩) c2 c3 c4 count).1 = treesG (birthsV (confB11 c0 c1 c2 c3 c4 c5 c6 c7 c8 c9 c10) c2 c3 c4 count).1 c0 c3 f from rfl, show alertsB ⟨c0, c1, c2, c3, c4, c5, c6, c7, c8, c9, c10, count, last, seq, win, f, al⟩ = alertsG c9 count last seq al from rfl] at HW0
    have HW := hH HW0
    clear HW0
    generalize windowG c0 c1 F count last win = X1 at *
    generalize treesG (birthsV (confB11 c0 c1 c2 c3 c4 c5 c6 c7 c8 c9 c10) c2 c3 c4 count).1 c0 c3 f = X2 at *
    generalize alertsG c9 count last seq al = X3 at *
    have HS := hH hS
    have HG := hH hG
    have HA := hH hA
    have hlo2 : 0 ≤ count := by omega
    have hhi2 : count ≤ 1099511627776 := by omega
    clear hB hF hS hG hA hwn hfn han hlo hhi
    have HSR2 := hH (fun W => show Calls Tryz.prog 35 #[.agg #[.int .i64 c0, .int .i64 c1, .int .i64 c2, .int .i64 c3, .int .i64 c4, .int .i64 c5, .int .i64 c6, .int .i64 c7, .int .i64 c8, .int .i64 c9, .int .i64 c10]] W fun e w' => e = .returned (.bool true) ∧ Below W.heap.size W w' ∧ Below W.heap.size W w' from dupC (HSR.out W))
    clear HSR
    cases X1 with
    | false =>
     go_enter Tryz.func11, Tryz.ntmps11
     go_wp2_with fail
     have hr0 : RowAt (w.alloc (.cells #[.int .i64 c0, .int .i64 c1, .int .i64 c2, .int .i64 c3, .int .i64 c4, .int .i64 c5, .int .i64 c6, .int .i64 c7, .int .i64 c8, .int .i64 c9, .int .i64 c10, .int .i64 count, .int .i64 last, .int .i64 seq, .slice wa wn wc, .slice fa fn fc, .slice aa an ac] 28)) w.heap.size 28 #[.int .i64 c0, .int .i64 c1, .int .i64 c2, .int .i64 c3, .int .i64 c4, .int .i64 c5, .int .i64 c6, .int .i64 c7, .int .i64 c8, .int .i64 c9, .int .i64 c10, .int .i64 count, .int .i64 last, .int .i64 seq, .slice wa wn wc, .slice fa fn fc, .slice aa an ac] := rowz_new rfl
     (with_reducible refine (HSR2.out _).mono ?_); rintro e w1 ⟨rfl, b1, bx1⟩; have s1 : w.heap.size + 1 ≤ w1.heap.size := sz b1; have B1 := hJ w b1; have c1_0 : w1.cell? ⟨w.heap.size, 11, none⟩ = some (.int .i64 count) := kC b1; obtain ⟨l1_0, n1_0, m1_0⟩ := lnm (show w.heap.size < w1.heap.size by omega); clear b1
     have R1 := hH (hr0.keep bx1 (by simp))
     clear hr0 bx1
     dsimp only
     have hKK := ‹∀ (a : Act) (w : World), wpList _ _ _ _ a w → _›
     refine hKK _ _ ?_
     clear hKK
     (try simp only [Act.put, List.setIfInBounds_toArray, List.set_cons_zero, List.set_cons_succ])
     iterate 11 (refine seqTk (v := ?_) rfl ?_ ?_; rotate_left 2; (focus (first | (go_simp; done) | (go_simp; with_reducible rfl))); (try simp only [Act.put, List.setIfInBounds_toArray, List.set_cons_zero, List.set_cons_succ]))
     refine seqLoadRow rfl 28 _ rfl (by rfl) R1.out.range Tryz.underlying28 rfl rJ ?_
     (try simp only [Act.put, List.setIfInBounds_toArray, List.set_cons_zero, List.set_cons_succ])
     go_wp2_with fail
     (with_reducible refine (HWI.out _ (HS.out.below (bx B1.out))).mono ?_); rintro e w2 ⟨rfl, b2⟩; have s2 : w1.heap.size ≤ w2.heap.size := sz b2; have B2 := bJ B1.out b2; clear b2
     go_wp2_with fail
     go_ret
     exact ⟨ret_bool (by rw [HW.out]; rfl), bx B2.out⟩
    | true =>
     cases X2 with
     | false =>
      go_enter Tryz.func11, Tryz.ntmps11
      go_wp2_with fail
      have hr0 : RowAt (w.alloc (.cells #[.int .i64 c0, .int .i64 c1, .int .i64 c2, .int .i64 c3, .int .i64 c4, .int .i64 c5, .int .i64 c6, .int .i64 c7, .int .i64 c8, .int .i64 c9, .int .i64 c10, .int .i64 count, .int .i64 last, .int .i64 seq, .slice wa wn wc, .slice fa fn fc, .slice aa an ac] 28)) w.heap.size 28 #[.int .i64 c0, .int .i64 c1, .int .i64 c2, .int .i64 c3, .int .i64 c4, .int .i64 c5, .int .i64 c6, .int .i64 c7, .int .i64 c8, .int .i64 c9, .int .i64 c10, .int .i64 count, .int .i64 last, .int .i64 seq, .slice wa wn wc, .slice fa fn fc, .slice aa an ac] := rowz_new rfl
      (with_reducible refine (HSR2.out _).mono ?_); rintro e w1 ⟨rfl, b1, bx1⟩; have s1 : w.heap.size + 1 ≤ w1.heap.size := sz b1; have B1 := hJ w b1; have c1_0 : w1.cell? ⟨w.heap.size, 11, none⟩ = some (.int .i64 count) := kC b1; obtain ⟨l1_0, n1_0, m1_0⟩ := lnm (show w.heap.size < w1.heap.size by omega); clear b1
      have R1 := hH (hr0.keep bx1 (by simp))
      clear hr0 bx1
      dsimp only
      have hKK := ‹∀ (a : Act) (w : World), wpList _ _ _ _ a w → _›
      refine hKK _ _ ?_
      clear hKK
      (try simp only [Act.put, List.setIfInBounds_toArray, List.set_cons_zero, List.set_cons_succ])
      iterate 11 (refine seqTk (v := ?_) rfl ?_ ?_; rotate_left 2; (focus (first | (go_simp; done) | (go_simp; with_reducible rfl))); (try simp only [Act.put, List.setIfInBounds_toArray, List.set_cons_zero, List.set_cons_succ]))
      refine seqLoadRow rfl 28 _ rfl (by rfl) R1.out.range Tryz.underlying28 rfl rJ ?_
      (try simp only [Act.put, List.setIfInBounds_toArray, List.set_cons_zero, List.set_cons_succ])
      go_wp2_with fail
      (with_reducible refine (dupC (HWI.out _ (HS.out.below (bx B1.out)))).mono ?_); rintro e w2 ⟨rfl, b2, bx2⟩; have s2 : w1.heap.size ≤ w2.heap.size := sz b2; have B2 := bJ B1.out b2; clear b2
      have R2 := hH (R1.out.keep bx2 (by omega))
      clear bx2
      dsimp only
      have hKK := ‹∀ (a : Act) (w : World), wpList _ _ _ _ a w → _›
      refine hKK _ _ ?_
      clear hKK
      (try simp only [Act.put, List.setIfInBounds_toArray, List.set_cons_zero, List.set_cons_succ])
      iterate 2 (refine seqTk (v := ?_) rfl ?_ ?_; rotate_left 2; (focus (first | (go_simp; done) | (go_simp; with_reducible rfl))); (try simp only [Act.put, List.setIfInBounds_toArray, List.set_cons_zero, List.set_cons_succ]))
      refine seqLoadRow rfl 28 _ rfl (by rfl) R2.out.range Tryz.underlying28 rfl rJ ?_
      (try simp only [Act.put, List.setIfInBounds_toArray, List.set_cons_zero, List.set_cons_succ])
      go_wp2_with fail
      (with_reducible refine (HTR.out _ (HG.out.below (bx B2.out))).mono ?_); rintro e w3 ⟨rfl, b3⟩; have s3 : w2.heap.size ≤ w3.heap.size := sz b3; have B3 := bJ B2.out b3; clear b3
      go_wp2_with fail
      go_ret
      exact ⟨ret_bool (by rw [HW.out]; rfl), bx B3.out⟩
     | true =>
      go_enter Tryz.func11, Tryz.ntmps11
      go_wp2_with fail
      have hr0 : RowAt (w.alloc (.cells #[.int .i64 c0, .int .i64 c1, .int .i64 c2, .int .i64 c3, .int .i64 c4, .int .i64 c5, .int .i64 c6, .int .i64 c7, .int .i64 c8, .int .i64 c9, .int .i64 c10, .int .i64 count, .int .i64 last, .int .i64 seq, .slice wa wn wc, .slice fa fn fc, .slice aa an ac] 28)) w.heap.size 28 #[.int .i64 c0, .int .i64 c1, .int .i64 c2, .int .i64 c3, .int .i64 c4, .int .i64 c5, .int .i64 c6, .int .i64 c7, .int .i64 c8, .int .i64 c9, .int .i64 c10, .int .i64 count, .int .i64 last, .int .i64 seq, .slice wa wn wc, .slice fa fn fc, .slice aa an ac] := rowz_new rfl
      (with_reducible refine (HSR2.out _).mono ?_); rintro e w1 ⟨rfl, b1, bx1⟩; have s1 : w.heap.size + 1 ≤ w1.heap.size := sz b1; have B1 := hJ w b1; have c1_0 : w1.cell? ⟨w.heap.size, 11, none⟩ = some (.int .i64 count) := kC b1; obtain ⟨l1_0, n1_0, m1_0⟩ := lnm (show w.heap.size < w1.heap.size by omega); clear b1
      have R1 := hH (hr0.keep bx1 (by simp))
      clear hr0 bx1
      dsimp only
      have hKK := ‹∀ (a : Act) (w : World), wpList _ _ _ _ a w → _›
      refine hKK _ _ ?_
      clear hKK
      (try simp only [Act.put, List.setIfInBounds_toArray, List.set_cons_zero, List.set_cons_succ])
      iterate 11 (refine seqTk (v := ?_) rfl ?_ ?_; rotate_left 2; (focus (first | (go_simp; done) | (go_simp; with_reducible rfl))); (try simp only [Act.put, List.setIfInBounds_toArray, List.set_cons_zero, List.set_cons_succ]))
      refine seqLoadRow rfl 28 _ rfl (by rfl) R1.out.range Tryz.underlying28 rfl rJ ?_
      (try simp only [Act.put, List.setIfInBounds_toArray, List.set_cons_zero, List.set_cons_succ])
      go_wp2_with fail
      (with_reducible refine (dupC (HWI.out _ (HS.out.below (bx B1.out)))).mono ?_); rintro e w2 ⟨rfl, b2, bx2⟩; have s2 : w1.heap.size ≤ w2.heap.size := sz b2; have B2 := bJ B1.out b2; clear b2
      have R2 := hH (R1.out.keep bx2 (by omega))
      clear bx2
      dsimp only
      have hKK := ‹∀ (a : Act) (w : World), wpList _ _ _ _ a w → _›
      refine hKK _ _ ?_
      clear hKK
      (try simp only [Act.put, List.setIfInBounds_toArray, List.set_cons_zero, List.set_cons_succ])
      iterate 2 (refine seqTk (v := ?_) rfl ?_ ?_; rotate_left 2; (focus (first | (go_simp; done) | (go_simp; with_reducible rfl))); (try simp only [Act.put, List.setIfInBounds_toArray, List.set_cons_zero, List.set_cons_succ]))
      refine seqLoadRow rfl 28 _ rfl (by rfl) R2.out.range Tryz.underlying28 rfl rJ ?_
      (try simp only [Act.put, List.setIfInBounds_toArray, List.set_cons_zero, List.set_cons_succ])
      go_wp2_with fail
      (with_reducible refine (dupC (HTR.out _ (HG.out.below (bx B2.out)))).mono ?_); rintro e w3 ⟨rfl, b3, bx3⟩; have s3 : w2.heap.size ≤ w3.heap.size := sz b3; have B3 := bJ B2.out b3; clear b3
      have R3 := hH (R2.out.keep bx3 (by omega))
      clear bx3
      dsimp only
      have hKK := ‹∀ (a : Act) (w : World), wpList _ _ _ _ a w → _›
      refine hKK _ _ ?_
      clear hKK
      (try simp only [Act.put, List.setIfInBounds_toArray, List.set_cons_zero, List.set_cons_succ])
      iterate 2 (refine seqTk (v := ?_) rfl ?_ ?_; rotate_left 2; (focus (first | (go_simp; done) | (go_simp; with_reducible rfl))); (try simp only [Act.put, List.setIfInBounds_toArray, List.set_cons_zero, List.set_cons_succ]))
      refine seqLoadRow rfl 28 _ rfl (by rfl) R3.out.range Tryz.underlying28 rfl rJ ?_
      (try simp only [Act.put, List.setIfInBounds_toArray, List.set_cons_zero, List.set_cons_succ])
      go_wp2_with fail
      (with_reducible refine (HAL.out _ (HA.out.below (bx B3.out))).mono ?_); rintro e w4 ⟨rfl, b4⟩; have s4 : w3.heap.size ≤ w4.heap.size := sz b4; have B4 := bJ B3.out b4; clear b4
      go_wp2_with fail
      go_ret
      exact ⟨ret_bool (by rw [HW.out]; simp), bx B4.out⟩
end Go.Proofs.YtgobbecpnjelmaaGreat

namespace Go.Proofs.YtgobbecpnjelmaaGreat
open Go.RowKit

theorem isF_nilU : isF [] = true := by
 unfold isF
 rfl

theorem growns_nilU (w : World) (c : Nat) (hc : c ≤ 9223372036854775807) : GrownsR w (.slice none 0 c) [] := ⟨none, c, rfl, by simp, hc, by simp, fun i p hi => by simp at hi⟩

/-- The state that took nothing is right. -/
theorem stateB_new (c0 c1 c2 c3 c4 c5 c6 c7 c8 c9 c10 : Int) (h : confB11 c0 c1 c2 c3 c4 c5 c6 c7 c8 c9 c10 = true) : stateB ⟨c0, c1, c2, c3, c4, c5, c6, c7, c8, c9, c10, 0, 0, 0, [], [], []⟩ = true := by
 have hc := (confB11_iff c0 c1 c2 c3 c4 c5 c6 c7 c8 c9 c10).1 h
 have h0 : (birthsV (confB11 c0 c1 c2 c3 c4 c5 c6 c7 c8 c9 c10) c2 c3 c4 0).1 = [] := by
  unfold birthsV
  split
  ·rw [upToV_zero (by omega)]
   unfold birthsL
   simp
  ·rfl
 rw [stateB_yes ⟨c0, c1, c2, c3, c4, c5, c6, c7, c8, c9, c10, 0, 0, 0, [], [], []⟩ h (by simp) (by simp), Bool.and_eq_true, Bool.and_eq_true]
 refine ⟨⟨?_, ?_⟩, ?_⟩
 ·unfold windowB
  rw [Bool.and_eq_true, decide_eq_true_eq, decide_eq_true_eq]
  exact ⟨by show (0 : Int) = min 0 c1; omega, rfl⟩
 ·unfold treesB
  rw [show StP.confB ⟨c0, c1, c2, c3, c4, c5, c6, c7, c8, c9, c10, 0, 0, 0, [], [], []⟩ = confB11 c0 c1 c2 c3 c4 c5 c6 c7 c8 c9 c10 from rfl]
  dsimp only
  rw [h0, isF_nilU]
  rfl
 ·unfold alertsB
  simp only [Bool.and_eq_true, decide_eq_true_eq]
  exact ⟨⟨⟨by simp, by simp⟩, by show (0 : Int) ≤ min 0 c9; omega⟩, rfl⟩

theorem usual_B : confB11 2 16 2 8 5 1 1 10 4 3 9 = true := by decide

theorem usual_S : stateB ⟨2, 16, 2, 8, 5, 1, 1, 10, 4, 3, 9, 0, 0, 0, [], [], []⟩ = true := stateB_new 2 16 2 8 5 1 1 10 4 3 9 usual_B

theorem usual_O : stateB ⟨2, 16, 2, 8, 5, 1, 1, 10, 4, 3, 9, 1, 0, 0, [], [], []⟩ = false := by
 cases h : stateB ⟨2, 16, 2, 8, 5, 1, 1, 10, 4, 3, 9, 1, 0, 0, [], [], []⟩ with
 | false => rfl
 | true =>
  unfold stateB at h
  simp only [Bool.and_eq_true] at h
  have hw := h.2.1.1
  unfold windowB at hw
  simp only [Bool.and_eq_true, decide_eq_true_eq] at hw
  exact absurd hw.1 (by decide)
end Go.Proofs.YtgobbecpnjelmaaGreat

namespace Go.Proofs.YtgobbecpnjelmaaGreat
open Go.RowKit

end Go.Proofs.YtgobbecpnjelmaaGreat

namespace Go.Proofs.YtgobbecpnjelmaaGreat
open Go.RowKit

theorem alertB_iff {a : AlertT} (h : alertB a = true) : (1 ≤ a.1 ∧ a.1 ≤ 1099511627776) ∧ (1 ≤ a.2.1 ∧ a.2.1 ≤ 1099511627776) ∧ scoreB a.2.2.1 = true ∧ scoreB a.2.2.2 = true := by
 unfold alertB at h
 simp only [Bool.and_eq_true, decide_eq_true_eq] at h
 obtain ⟨⟨h1, h2⟩, ⟨h3, h4⟩, _⟩ := h
 exact ⟨h1, h2, h3, h4⟩

/-- The bytes of a right alert. -/
def alertBytes (a : AlertT) : List Int := putsU a.1.toNat ++ putsU a.2.1.toNat ++ scoreBytes a.2.2.1 ++ scoreBytes a.2.2.2

theorem scoreBytes_len18 (p : Int × Int) : (scoreBytes p).length ≤ 18 := by
 unfold scoreBytes
 split
 ·have := putsU_len (n := p.1.toNat)
  have := putsU_len (n := p.2.toNat)
  rw [List.length_append]
  omega
 ·simp

theorem alertBytes_len (a : AlertT) : (alertBytes a).length ≤ 54 := by
 have h1 := putsU_len (n := a.1.toNat)
 have h2 := putsU_len (n := a.2.1.toNat)
 have h3 := scoreBytes_len18 a.2.2.1
 have h4 := scoreBytes_len18 a.2.2.2
 unfold alertBytes
 simp only [List.length_append]
 omega

theorem scoreBytes_two {p q : Int} (h : scoreB (p, q) = true) : scoreBytes (p, q) = putsU p.toNat ++ putsU q.toNat := by unfold scoreBytes; rw [if_pos h]

set_option maxRecDepth 100000 in
set_option maxHeartbeats 8000000 in
theorem putAlert_any (q i p1 q1 p2 q2 : Int) (w : World) (h : alertB (q, i, (p1, q1), (p2, q2)) = true) :
  Calls Tryz.prog 53 #[.slice none 0 0, .agg #[.int .i64 q, .int .i64 i, .int .i64 p1, .int .i64 q1, .int .i64 p2, .int .i64 q2]] w fun e w' => ∃ v', e = .returned v' ∧ Ints .u8 w' v' (alertBytes (q, i, (p1, q1), (p2, q2))) ∧ Below w.heap.size w w' := by
 have HR := hH (fun W => h ▸ rightAlert_any q i p1 q1 p2 q2 W)
 have HQI := hH (show ∀ x ∈ [q, i], 0 ≤ x ∧ x ≤ 9223372036854775807 from by
  obtain ⟨h1, h2, _⟩ := alertB_iff h
  dsimp only at h1 h2
  intro x hx
  simp at hx
  rcases hx with rfl | rfl <;> omega)
 have HL1 := hH (show ([] ++ natsB [q, i]).length ≤ 800000 from by have := natsB_len [q, i]; simp at this ⊢; omega)
 have HL2 := hH (show ([] ++ natsB [q, i] ++ scoreBytes (p1, q1)).length ≤ 800000 from by have h1 := natsB_len [q, i]; have h2 := scoreBytes_len18 (p1, q1); simp at h1 ⊢; omega)
 clear h
 go_enter Tryz.func53, Tryz.ntmps53
 go_wp2_with fail
 (with_reducible refine (HR.out _).mono ?_); rintro e w1 ⟨rfl, b1⟩; have s1 : w.heap.size + 1 ≤ w1.heap.size := sz b1; have B1 := hJ w b1; obtain ⟨c1_0, c1_1, c1_2, c1_3, c1_4, c1_5⟩ := k6 (w.heap.size) (.int .i64 q) (.int .i64 i) (.int .i64 p1) (.int .i64 q1) (.int .i64 p2) (.int .i64 q2) b1 aJ; obtain ⟨l1_0, n1_0, m1_0⟩ := lnm (show w.heap.size < w1.heap.size by omega); clear b1
 go_wp2_with fail
 refine wp_region_held_drew (S := fun w' => w'.cell? ⟨w.heap.size, 0, none⟩ = some (.int .i64 q) ∧ w'.cell? ⟨w.heap.size, 1, none⟩ = some (.int .i64 i) ∧ w'.cell? ⟨w.heap.size, 2, none⟩ = some (.int .i64 p1) ∧ w'.cell? ⟨w.heap.size, 3, none⟩ = some (.int .i64 q1) ∧ w'.cell? ⟨w.heap.size, 4, none⟩ = some (.int .i64 p2) ∧ w'.cell? ⟨w.heap.size, 5, none⟩ = some (.int .i64 q2)) rJ kJ (fun hHeld => ?_); refine lJ 0 hHeld ?_; refine lJ 1 hHeld ?_; refine lJ 2 hHeld ?_; refine lJ 3 hHeld ?_; refine lJ 4 hHeld ?_; refine lJ 7 hHeld ?_; refine lJ 8 hHeld ?_; refine lJ 10 hHeld ?_; refine lJ 11 hHeld ?_; refine lexHv 5 rfl ?_ rJ; (intro K hK); (go_simp); clear hHeld; refine pJ hK fun hHeld => ?_; clear hK K; refine lexHv 6 rfl ?_ rJ; (intro K hK); (go_simp; (go_at_call 89); ((with_reducible refine (nats_any _ [] _ [q, i] _ (ints_nil _ _ _ _ (by omega)) ((newI2 q i w1 3 _ (by rfl)).drew) HQI.out (by simp)).mono ?_)); (rintro e w2 ⟨v2, rfl, i2, b2⟩); (have s2 : w1.heap.size ≤ w2.heap.size := sz b2); (have B2 := bJ B1.out b2); (have I2 := hH i2); (clear i2); (obtain ⟨c2_0, c2_1, c2_2, c2_3, c2_4, c2_5⟩ := k6 (w.heap.size) (.int .i64 q) (.int .i64 i) (.int .i64 p1) (.int .i64 q1) (.int .i64 p2) (.int .i64 q2) b2 aJ); (obtain ⟨l2_0, n2_0, m2_0⟩ := lnm (show w.heap.size < w2.heap.size by omega)); (clear b2); (try go_wp2_with fail)); clear hHeld; refine pJ hK fun hHeld => ?_; clear hK K; refine lexHv 9 rfl ?_ rJ; (intro K hK); (go_simp; (go_at_call 92); ((with_reducible refine (putScore_any _ _ p1 q1 _ I2.out HL1.out).mono ?_)); (rintro e w3 ⟨v3, rfl, i3, b3⟩); (have s3 : w2.heap.size ≤ w3.heap.size := sz b3); (have B3 := bJ B2.out b3); (have I3 := hH i3); (clear i3); (obtain ⟨c3_0, c3_1, c3_2, c3_3, c3_4, c3_5⟩ := k6 (w.heap.size) (.int .i64 q) (.int .i64 i) (.int .i64 p1) (.int .i64 q1) (.int .i64 p2) (.int .i64 q2) b3 aJ); (obtain ⟨l3_0, n3_0, m3_0⟩ := lnm (show w.heap.size < w3.heap.size by omega)); (clear b3); (try go_wp2_with fail)); clear hHeld; refine pJ hK fun hHeld => ?_; clear hK K; refine lexHv 12 rfl ?_ rJ; (intro K hK); (go_simp; (go_at_call 92); ((with_reducible refine (putScore_any _ _ p2 q2 _ I3.out HL2.out).mono ?_)); (rintro e w4 ⟨v4, rfl, i4, b4⟩); (have s4 : w3.heap.size ≤ w4.heap.size := sz b4); (have B4 := bJ B3.out b4); (have I4 := hH i4); (clear i4); (obtain ⟨c4_0, c4_1, c4_2, c4_3, c4_4, c4_5⟩ := k6 (w.heap.size) (.int .i64 q) (.int .i64 i) (.int .i64 p1) (.int .i64 q1) (.int .i64 p2) (.int .i64 q2) b4 aJ); (obtain ⟨l4_0, n4_0, m4_0⟩ := lnm (show w.heap.size < w4.heap.size by omega)); (clear b4); (try go_wp2_with fail)); clear hHeld; refine pJ hK fun hHeld => ?_; clear hK K; refine lJ 13 hHeld ?_; refine wpAnyH_done rJ ?_ _
 go_wp2_with fail
 go_ret
 have r := I4.out
 have r2 : Ints .u8 w4 v4 (alertBytes (q, i, (p1, q1), (p2, q2))) := by simpa [alertBytes, natsB] using r
 exact ⟨_, rfl, r2, B4.out⟩

set_option maxRecDepth 100000 in
set_option maxHeartbeats 8000000 in
theorem rAlert22_any (q i p1 q1 p2 q2 : Int) (w : World) (h : alertB (q, i, (p1, q1), (p2, q2)) = true) :
  Calls Tryz.prog 58 #[.agg #[.int .i64 q, .int .i64 i, .int .i64 p1, .int .i64 q1, .int .i64 p2, .int .i64 q2]] w fun e w' => ∃ v', e = .returned v' ∧ Ints .u8 w' v' (alertBytes (q, i, (p1, q1), (p2, q2))) ∧ Below w.heap.size w w' := by
 have HR := hH (fun W => h ▸ rrightAlert_any q i p1 q1 p2 q2 W)
 obtain ⟨⟨h1, h2⟩, ⟨h3, h4⟩, _⟩ := alertB_iff h
 dsimp only at h1 h2 h3 h4
 obtain ⟨Q, rfl⟩ : ∃ Q : Nat, q = (Q : Int) := ⟨q.toNat, by omega⟩
 obtain ⟨I, rfl⟩ : ∃ I : Nat, i = (I : Int) := ⟨i.toNat, by omega⟩
 have H1 := hH (fun W => rU_any Q W (by omega))
 have H2 := hH (fun W => rU_any I W (by omega))
 rw [← u64_wrap (z := (Q : Int)) (by omega) (by omega)] at H1
 rw [← u64_wrap (z := (I : Int)) (by omega) (by omega)] at H2
 have HL1 := hH (putsU_len (n := Q))
 have HL2 := hH (putsU_len (n := I))
 have HL3 := hH (scoreBytes_len18 (p1, q1))
 have HL4 := hH (scoreBytes_len18 (p2, q2))
 have hq : (Q : Int) ≤ 18446744073709551615 := by omega
 have hi : (I : Int) ≤ 18446744073709551615 := by omega
 clear h h1 h2 h3 h4
 go_enter Tryz.func58, Tryz.ntmps58
 go_wp2_with fail
 (with_reducible refine (HR.out _).mono ?_); rintro e w1 ⟨rfl, b1⟩; have s1 : w.heap.size + 1 ≤ w1.heap.size := sz b1; have B1 := hJ w b1; obtain ⟨c1_0, c1_1, c1_2, c1_3, c1_4, c1_5⟩ := k6 (w.heap.size) (.int .i64 Q) (.int .i64 I) (.int .i64 p1) (.int .i64 q1) (.int .i64 p2) (.int .i64 q2) b1 aJ; obtain ⟨l1_0, n1_0, m1_0⟩ := lnm (show w.heap.size < w1.heap.size by omega); clear b1
 go_wp2_with fail
 refine wp_region_held_drew (S := fun w' => w'.cell? ⟨w.heap.size, 0, none⟩ = some (.int .i64 Q) ∧ w'.cell? ⟨w.heap.size, 1, none⟩ = some (.int .i64 I) ∧ w'.cell? ⟨w.heap.size, 2, none⟩ = some (.int .i64 p1) ∧ w'.cell? ⟨w.heap.size, 3, none⟩ = some (.int .i64 q1) ∧ w'.cell? ⟨w.heap.size, 4, none⟩ = some (.int .i64 p2) ∧ w'.cell? ⟨w.heap.size, 5, none⟩ = some (.int .i64 q2)) rJ kJ (fun hHeld => ?_); refine lJ 0 hHeld ?_; refine lJ 1 hHeld ?_; refine lJ 2 hHeld ?_; refine lJ 4 hHeld ?_; refine lJ 5 hHeld ?_; refine lJ 6 hHeld ?_; refine lexHv 3 rfl ?_ rJ; (intro K hK); (go_simp; (go_at_call 55); ((with_reducible refine (H1.out _).mono ?_)); (rintro e w2 ⟨v2, rfl, o2, b2⟩); (have s2 : w1.heap.size ≤ w2.heap.size := sz b2); (have B2 := bJ B1.out b2); (have O2 := hH o2); (clear o2); (obtain ⟨c2_0, c2_1, c2_2, c2_3, c2_4, c2_5⟩ := k6 (w.heap.size) (.int .i64 Q) (.int .i64 I) (.int .i64 p1) (.int .i64 q1) (.int .i64 p2) (.int .i64 q2) b2 aJ); (obtain ⟨l2_0, n2_0, m2_0⟩ := lnm (show w.heap.size < w2.heap.size by omega)); (clear b2); (try go_wp2_with fail)); clear hHeld; refine pJ hK fun hHeld => ?_; clear hK K; refine lexHv 7 rfl ?_ rJ; (intro K hK); (go_simp; (go_at_call 55); ((with_reducible refine (H2.out _).mono ?_)); (rintro e w3 ⟨v3, rfl, o3, b3⟩); (have s3 : w2.heap.size ≤ w3.heap.size := sz b3); (have B3 := bJ B2.out b3); (have O3 := hH (own_keep O2.out (fun g _ hg => b3.block g hg))); (have I3 := hH (o3.ints' (by have := HL2.out; omega))); (clear o3); (obtain ⟨c3_0, c3_1, c3_2, c3_3, c3_4, c3_5⟩ := k6 (w.heap.size) (.int .i64 Q) (.int .i64 I) (.int .i64 p1) (.int .i64 q1) (.int .i64 p2) (.int .i64 q2) b3 aJ); (obtain ⟨l3_0, n3_0, m3_0⟩ := lnm (show w.heap.size < w3.heap.size by omega)); (clear b3); (try go_wp2_with fail)); clear hHeld; refine pJ hK fun hHeld => ?_; clear hK K; refine lexHv 8 rfl ?_ rJ; (intro K hK); ((refine appInts_step rfl _ _ 45 rfl Tryz.underlying45 eiU8 w1.heap.size (by rfl) O3.out (by rfl) I3.out (by have := HL1.out; have := HL2.out; omega) (by omega) ?_); (intro v4 w4 o4 b4 _); (have O4 := hH o4); (have B4 := hH (show Below w.heap.size w w4 from below_tr (bx B3.out) (b4.mono (by omega)))); (have s4 : w3.heap.size ≤ w4.heap.size := b4.size); (obtain ⟨c4_0, c4_1, c4_2, c4_3, c4_4, c4_5⟩ := k6 (w.heap.size) (.int .i64 Q) (.int .i64 I) (.int .i64 p1) (.int .i64 q1) (.int .i64 p2) (.int .i64 q2) b4 aJ); (obtain ⟨l4_0, n4_0, m4_0⟩ := lnm (show w.heap.size < w4.heap.size by omega)); (clear o4 b4)); clear hHeld; refine pJ hK fun hHeld => ?_; clear hK K; refine lJ 9 hHeld ?_; refine wpAnyH_done rJ ?_ _
 go_wp2_with fail
 (with_reducible refine (rscore22_any p1 q1 _).mono ?_); rintro e w5 ⟨v5, rfl, i5, b5⟩; have s5 : w4.heap.size ≤ w5.heap.size := sz b5; have B5 := bJ B4.out b5; obtain ⟨c5_0, c5_1, c5_2, c5_3, c5_4, c5_5⟩ := k6 (w.heap.size) (.int .i64 Q) (.int .i64 I) (.int .i64 p1) (.int .i64 q1) (.int .i64 p2) (.int .i64 q2) b5 aJ; obtain ⟨l5_0, n5_0, m5_0⟩ := lnm (show w.heap.size < w5.heap.size by omega); have O4 := hH (own_keep (by (repeat (first | with_reducible exact O4.out | with_reducible refine own_set ?_ mJ | with_reducible refine own_drew ?_ | with_reducible refine World.ownsRow.alloc ?_ _ | exact O4.out))) (fun g _ hg => b5.block g hg)); clear b5
 have I5 := hH i5
 clear i5
 go_wp2_with (at_builtin; go_must (refine appInts rfl _ _ 45 rfl Tryz.underlying45 eiU8 w1.heap.size (by rfl) O4.out (by rfl) I5.out (by have := HL1.out; have := HL2.out; have := HL3.out; omega) (by omega) ?_))
 intro v6 w6 o6 b6 _
 have O6 := hH o6
 have B6 := hH (show Below w.heap.size w w6 from below_tr B5.out (b6.mono (by omega)))
 have s6 : w5.heap.size ≤ w6.heap.size := b6.size
 (obtain ⟨c6_0, c6_1, c6_2, c6_3, c6_4, c6_5⟩ := k6 (w.heap.size) (.int .i64 Q) (.int .i64 I) (.int .i64 p1) (.int .i64 q1) (.int .i64 p2) (.int .i64 q2) b6 aJ); (obtain ⟨l6_0, n6_0, m6_0⟩ := lnm (show w.heap.size < w6.heap.size by omega))
 clear o6 b6
 go_wp2_with fail
 (with_reducible refine (rscore22_any p2 q2 _).mono ?_); rintro e w7 ⟨v7, rfl, i7, b7⟩; have s7 : w6.heap.size ≤ w7.heap.size := sz b7; have B7 := bJ B6.out b7; obtain ⟨c7_0, c7_1, c7_2, c7_3, c7_4, c7_5⟩ := k6 (w.heap.size) (.int .i64 Q) (.int .i64 I) (.int .i64 p1) (.int .i64 q1) (.int .i64 p2) (.int .i64 q2) b7 aJ; obtain ⟨l7_0, n7_0, m7_0⟩ := lnm (show w.heap.size < w7.heap.size by omega); have O6 := hH (own_keep (by (repeat (first | with_reducible exact O6.out | with_reducible refine own_set ?_ mJ | with_reducible refine own_drew ?_ | with_reducible refine World.ownsRow.alloc ?_ _ | exact O6.out))) (fun g _ hg => b7.block g hg)); clear b7
 have I7 := hH i7
 clear i7
 go_wp2_with (at_builtin; go_must (refine appInts rfl _ _ 45 rfl Tryz.underlying45 eiU8 w1.heap.size (by rfl) O6.out (by rfl) I7.out (by have := HL1.out; have := HL2.out; have := HL3.out; have := HL4.out; omega) (by omega) ?_))
 intro v8 w8 o8 b8 _
 have O8 := hH o8
 have B8 := hH (show Below w.heap.size w w8 from below_tr B7.out (b8.mono (by omega)))
 clear o8 b8
 go_wp2_with fail
 go_ret
 have r2 : OwnB w8 w1.heap.size v8 (alertBytes ((Q : Int), (I : Int), (p1, q1), (p2, q2))) := by
  have r := O8.out
  unfold OwnB
  simpa [alertBytes, Nat.add_assoc] using r
 exact ⟨_, rfl, r2.ints' (Nat.le_trans (alertBytes_len _) (by omega)), B8.out⟩
end Go.Proofs.YtgobbecpnjelmaaGreat

namespace Go.Proofs.YtgobbecpnjelmaaGreat
open Go.RowKit

/-! How many bytes. -/
theorem upF_small : ∀ (k f n : Nat), n < 256 ^ k → k ≤ f → upF f n = upF k n
  | k, f, n, h, hk => by
    induction f with
    | zero => obtain rfl : k = 0 := by omega
              rfl
    | succ f ih =>
      by_cases e : k = f + 1
      · rw [e]
      · rw [upF_succ f n (Nat.lt_of_lt_of_le h (Nat.pow_le_pow_right (by omega) (by omega))), ih (by omega)]

theorem putsU_le (k n : Nat) (h : n < 256 ^ k) (hk : k ≤ 8) : (putsU n).length ≤ k + 1 := by
 unfold putsU
 split
 ·simp
 ·rw [List.length_cons]
  unfold up
  rw [upF_small k 8 n h hk]
  have := upF_length k n
  omega

theorem putsU_1 {n : Nat} (h : n < 240) : (putsU n).length = 1 := by
 unfold putsU
 rw [if_pos h]
 rfl

theorem zig_le {i b : Int} (h : -b ≤ i ∧ i ≤ b) : (zig i : Int) ≤ 2 * b := by
 unfold zig
 split <;> omega

theorem putsI_1 {i : Int} (h : -4 ≤ i ∧ i ≤ 4) : (putsI i).length = 1 := by
 have := zig_le h
 exact putsU_1 (by omega)

theorem putsIs_1 : ∀ {c : List Int}, (∀ x ∈ c, -4 ≤ x ∧ x ≤ 4) → (putsIs c).length = c.length
 | [], _ => rfl
 | i :: c, h => by
  rw [putsIs, List.length_append, putsI_1 (h i (by simp)), putsIs_1 (fun x hx => h x (List.mem_cons_of_mem _ hx)), List.length_cons, Nat.add_comm]

theorem putsIs_5 : ∀ {c : List Int}, (∀ x ∈ c, -2147483648 ≤ x ∧ x ≤ 2147483647) → (putsIs c).length ≤ 5 * c.length
 | [], _ => Nat.le_refl _
 | i :: c, h => by
  have h1 := h i (by simp)
  have h2 : (putsI i).length ≤ 5 := putsU_le 4 (zig i) (by unfold zig; split <;> omega) (by omega)
  have h3 := putsIs_5 (fun x hx => h x (List.mem_cons_of_mem _ hx))
  rw [putsIs, List.length_append, List.length_cons]
  omega

theorem scoreBytes_7 (p : Int × Int) : (scoreBytes p).length ≤ 7 := by
 unfold scoreBytes
 split
 ·rename_i h
  obtain ⟨⟨h1, h2⟩, ⟨h3, h4⟩, _⟩ := scoreB_is.1 h
  have e1 := putsU_le 5 p.1.toNat (by omega) (by omega)
  have e2 := putsU_1 (n := p.2.toNat) (by omega)
  rw [List.length_append]
  omega
 ·simp

theorem vecB_val {x : List Int} {dim : Int} (h : vecB x dim = true) : ∀ z ∈ x, -2147483648 ≤ z ∧ z ≤ 2147483647 := by
 unfold vecB at h
 simp only [Bool.and_eq_true, decide_eq_true_eq, List.all_eq_true] at h
 exact h.2

theorem seenTB_is {t : SeenT} {dim : Int} (h : seenTB t dim = true) : (1 ≤ t.1 ∧ t.1 ≤ 1099511627776) ∧ vecB t.2.1 dim = true ∧ (if t.2.2.2.2 = true then scoreB (t.2.2.1, t.2.2.2.1) = true else t.2.2.1 = 0 ∧ t.2.2.2.1 = 0) := by
 unfold seenTB seenB at h
 simp only [Bool.and_eq_true, decide_eq_true_eq] at h
 obtain ⟨⟨h1, h2⟩, h3⟩ := h
 refine ⟨h1, h2, ?_⟩
 split at h3
 ·rename_i hs; rw [if_pos hs]; exact h3
 ·rename_i hs; rw [if_neg hs]; simpa using h3

theorem seenTW_is {t : SeenT} {dim : Int} (h : seenTB t dim = true) : seenTW t dim = putsU t.1.toNat ++ (putsIs t.2.1 ++ (if t.2.2.2.2 = true then putsU 1 ++ scoreBytes (t.2.2.1, t.2.2.2.1) else putsU 0)) := by
 unfold seenTW seenBytes
 unfold seenTB at h
 rw [if_pos h, List.append_assoc]

theorem seenTW_len {t : SeenT} {dim : Int} (h : seenTB t dim = true) : ((seenTW t dim).length : Int) ≤ 15 + 5 * dim := by
 obtain ⟨h1, h2, _⟩ := seenTB_is h
 have h3 := putsIs_5 (vecB_val h2)
 have h4 := (vecB_iff h2).2.1
 have h5 := putsU_le 6 t.1.toNat (by omega) (by omega)
 have h6 := scoreBytes_7 (t.2.2.1, t.2.2.2.1)
 have h7 := putsU_1 (n := 1) (by omega)
 have h8 := putsU_1 (n := 0) (by omega)
 rw [seenTW_is h]
 simp only [List.length_append]
 split
 ·rw [List.length_append]; omega
 ·omega

theorem alertBytes_28 {a : AlertT} (h : alertB a = true) : (alertBytes a).length ≤ 28 := by
 obtain ⟨h1, h2, _⟩ := alertB_iff h
 have h3 := putsU_le 6 a.1.toNat (by omega) (by omega)
 have h4 := putsU_le 6 a.2.1.toNat (by omega) (by omega)
 have h5 := scoreBytes_7 a.2.2.1
 have h6 := scoreBytes_7 a.2.2.2
 unfold alertBytes
 simp only [List.length_append]
 omega

theorem natsB_cons (x : Int) (l : List Int) : natsB (x :: l) = putsU x.toNat ++ natsB l := rfl

theorem natsB_len3 : ∀ {l : List Int}, (∀ x ∈ l, 0 ≤ x ∧ x ≤ 1000) → (natsB l).length ≤ 3 * l.length
  | [], _ => Nat.le_refl _
  | x :: l, h => by
    have h1 := h x (by simp)
    have h2 := putsU_le 2 x.toNat (by omega) (by omega)
    have h3 := natsB_len3 (l := l) (fun y hy => h y (List.mem_cons_of_mem _ hy))
    rw [natsB_cons, List.length_append, List.length_cons]
    omega

/-! Trees. -/
theorem sub_bytes {t : TreeP} {d : Nat} (hd : t.dim = (d : Int)) {i e h : Nat} {s : Int} (q : Sub t i e h s) (hs : s ≤ 64) :
  ∃ L : Nat, 1 ≤ L ∧ (L : Int) ≤ s ∧ (((t.nodes.drop i).take (e - i)).flatMap encN).length + (7 + d) ≤ L * (8 + d) := by
 induction q with
 | @leaf i n hn hl =>
  obtain ⟨l1, l2, l3, l4, l5⟩ := leafB_is hl
  refine ⟨1, Nat.le_refl _, by omega, ?_⟩
  have e1 : (t.nodes.drop i).take (i + 1 - i) = [n] := by
   obtain ⟨hlt, e⟩ := List.getElem?_eq_some_iff.1 hn
   rw [show i + 1 - i = 1 by omega, List.drop_eq_getElem_cons hlt, e]
   rfl
  rw [e1]
  show (encN n ++ []).length + (7 + d) ≤ 1 * (8 + d)
  rw [List.append_nil]
  unfold encN
  rw [if_pos l1, putsU_1 (by omega)]
  omega
 | @node i m e a b x y n hn hl hc q1 hr q2 hz ih1 ih2 =>
  have p1 := q1.pos
  have p2 := q2.pos
  obtain ⟨L1, l1, s1, b1⟩ := ih1 (by omega)
  obtain ⟨L2, l2, s2, b2⟩ := ih2 (by omega)
  have lt1 := q1.lt
  have lt2 := q2.lt
  refine ⟨L1 + L2, by omega, by omega, ?_⟩
  have e1 : (t.nodes.drop i).take (e - i) = n :: ((t.nodes.drop (i + 1)).take (m - (i + 1)) ++ (t.nodes.drop m).take (e - m)) := by
   obtain ⟨hlt, e0⟩ := List.getElem?_eq_some_iff.1 hn
   rw [List.drop_eq_getElem_cons hlt, e0, show e - i = (e - (i + 1)) + 1 by omega, List.take_succ_cons]
   congr 1
   rw [show e - (i + 1) = (m - (i + 1)) + (e - m) by omega, List.take_add, List.drop_drop, show i + 1 + (m - (i + 1)) = m by omega]
  rw [cutB_is, Bool.and_eq_true, Bool.and_eq_true, decide_eq_true_eq, decide_eq_true_eq] at hc
  obtain ⟨⟨hc1, hc2⟩, hc3⟩ := hc
  obtain ⟨_, _, g3, _⟩ := partsB_yes hc3
  have hc4 := hc3
  unfold partsB at hc4
  simp only [Bool.and_eq_true, List.all_eq_true, decide_eq_true_eq] at hc4
  have hp := putsIs_1 (c := n.coef) (fun x hx => hc4.1.2 x hx)
  have ha : (putsI n.at_).length ≤ 6 := putsU_le 5 (zig n.at_) (by have := zig_le (i := n.at_) (b := 137438953472) ⟨hc1, hc2⟩; omega) (by omega)
  have hn' : (encN n).length ≤ 7 + d := by
   unfold encN
   rw [if_neg (by omega), List.length_cons, List.length_append]
   omega
  rw [e1, List.flatMap_cons, List.flatMap_append, List.length_append, List.length_append, Nat.add_mul]
  omega

theorem rootS_of {t : TreeP} {n : NodeP} (h : t.nodes[0]? = some n) : rootS t = n.size := by
 unfold rootS
 cases hl : t.nodes with
 | nil => rw [hl] at h; simp at h
 | cons x l =>
  rw [hl] at h
  simp at h
  rw [h]

/-- A tree's bytes. -/
theorem treeBy_len28 {t : TreeP} {D S : Int} (h : treeB t = true) (hD : t.dim = D) (hS : rootS t = S) : 1 ≤ D ∧ D ≤ 8 ∧ 1 ≤ S ∧ S ≤ 64 ∧ ((treeBy t).length : Int) ≤ 1 + S + (S - 1) * (7 + D) := by
 obtain ⟨d1, d2, g, s, q, hs, hg⟩ := treeB_true.1 h
 obtain ⟨n, hn, hn2⟩ := q.at_
 have e0 := rootS_of hn
 obtain ⟨d, hd⟩ : ∃ d : Nat, t.dim = (d : Int) := ⟨t.dim.toNat, by omega⟩
 obtain ⟨L, l1, l2, l3⟩ := sub_bytes hd q hs
 have e1 : S = s := by rw [← hS, e0, hn2]
 rw [List.drop_zero, Nat.sub_zero, List.take_length] at l3
 have h0 : treeBy t = putsU t.dim.toNat ++ t.nodes.flatMap encN := by unfold treeBy; rw [if_pos h]
 have h1 := putsU_1 (n := t.dim.toNat) (by omega)
 have hle : L * (8 + d) ≤ s.toNat * (8 + d) := Nat.mul_le_mul_right _ (by omega)
 have e2 : ((s.toNat * (8 + d) : Nat) : Int) = s * (8 + d) := by
  rw [Int.natCast_mul, Int.toNat_of_nonneg (by omega), Int.natCast_add]
  rfl
 refine ⟨by omega, by omega, by omega, by omega, ?_⟩
 rw [hd] at h1
 rw [h0, List.length_append, e1, ← hD, hd]
 have e3 : (s - 1) * (7 + (d : Int)) = s * (8 + d) - s - (7 + d) := by
  have : s * (8 + (d : Int)) = s * (7 + d) + s := by rw [show (8 : Int) + d = (7 + d) + 1 by omega, Int.mul_add, Int.mul_one]
  rw [Int.sub_mul, Int.one_mul, this]
  omega
 rw [e3]
 omega

theorem flatMap_len {α : Type} {g : α → List Int} {c : Nat} : ∀ {l : List α}, (∀ x ∈ l, (g x).length ≤ c) → (l.flatMap g).length ≤ l.length * c
 | [], _ => by simp
 | x :: l, h => by
  have h1 := h x (by simp)
  have h2 := flatMap_len (l := l) (fun y hy => h y (List.mem_cons_of_mem _ hy))
  rw [List.flatMap_cons, List.length_append, List.length_cons, Nat.add_mul]
  omega

theorem bornF_at {D S : Int} : ∀ {B : List Int} {f : List (TreeP × Int)}, B.length = f.length → bornF D S B f = true → ∀ g ∈ f, g.1.dim = D ∧ rootS g.1 = S
 | [], [], _, _, g, hg => by simp at hg
 | b :: B, x :: f, hl, h, g, hg => by
  unfold bornF at h
  simp only [Bool.and_eq_true, decide_eq_true_eq] at h
  rcases List.mem_cons.1 hg with rfl | hg
  ·exact h.1.2
  ·exact bornF_at (by simpa using hl) h.2 g hg
 | [], _ :: _, hl, _, _, _ => by simp at hl
 | _ :: _, [], hl, _, _, _ => by simp at hl

theorem winF_all {first dim : Int} : ∀ {L : List SeenT} {last n r : Int}, winF first dim last n L = some r → (∀ t ∈ L, seenTB t dim = true) ∧ last ≤ r ∧ (r = last ∨ r ≤ 1099511627776)
 | [], last, n, r, h => by
  injection h with h
  exact ⟨fun t ht => by simp at ht, by omega, .inl h.symm⟩
 | x :: L, last, n, r, h => by
  unfold winF at h
  split at h
  ·cases h
  ·rename_i hc
   have hb : seenTB x dim = true := by
    cases hx : seenTB x dim with
    | true => rfl
    | false => exact absurd (.inr (.inr hx)) hc
   obtain ⟨g1, g2, g3⟩ := winF_all h
   have hid := (seenTB_is hb).1
   refine ⟨fun t ht => ?_, ?_, ?_⟩
   ·rcases List.mem_cons.1 ht with rfl | ht
    ·exact hb
    ·exact g1 t ht
   ·have : ¬ x.1 ≤ last := fun e => hc (.inl e)
    omega
   ·right
    omega

theorem alertF_all {top : Int} : ∀ {A : List AlertT} {last q : Int}, alertF top last q A = true → ∀ a ∈ A, alertB a = true
 | [], _, _, _, a, ha => by simp at ha
 | x :: A, last, q, h, a, ha => by
  unfold alertF at h
  split at h
  ·cases h
  ·rename_i hc
   rcases List.mem_cons.1 ha with rfl | ha
   ·cases hx : alertB a with
    | true => rfl
    | false => exact absurd (.inr (.inr (.inr hx))) hc
   ·exact alertF_all h a ha

/-- What a right state is. -/
structure RightP (s : StP) : Prop where
 conf : s.confB = true
 count : 0 ≤ s.count ∧ s.count ≤ 1099511627776
 last : 0 ≤ s.last ∧ s.last ≤ 1099511627776
 seq : 0 ≤ s.seq ∧ s.seq ≤ 1099511627776
 winL : (s.win.length : Int) = min s.count s.c1
 win : ∀ t ∈ s.win, seenTB t s.c0 = true
 forL : (s.forest.length : Int) ≤ s.c2
 isF : isF s.forest = true
 trees : ∀ g ∈ s.forest, g.1.dim = s.c0 ∧ rootS g.1 = s.c3
 alL : (s.alerts.length : Int) ≤ s.c9
 al : ∀ a ∈ s.alerts, alertB a = true

theorem confB_iff (s : StP) (h : s.confB = true) : (1 ≤ s.c0 ∧ s.c0 ≤ 8) ∧ (2 ≤ s.c1 ∧ s.c1 ≤ 256) ∧ (1 ≤ s.c2 ∧ s.c2 ≤ 16) ∧ (2 ≤ s.c3 ∧ s.c3 ≤ 64) ∧ (1 ≤ s.c9 ∧ s.c9 ≤ 64) := by
 obtain ⟨h0, h1, h2, h3, _, _, _, _, _, _, h9, _⟩ := (confB11_iff _ _ _ _ _ _ _ _ _ _ _).1 h
 exact ⟨h0, h1, h2, h3, h9⟩

theorem stateB_is {s : StP} (h : stateB s = true) : RightP s := by
  unfold stateB at h
  simp only [Bool.and_eq_true, decide_eq_true_eq] at h
  obtain ⟨⟨hc, hn⟩, ⟨hw, ht⟩, ha⟩ := h
  unfold windowB at hw
  simp only [Bool.and_eq_true, decide_eq_true_eq] at hw
  obtain ⟨w1, w2⟩ := hw
  obtain ⟨v1, v2, v3⟩ := winF_all w2
  unfold treesB at ht
  simp only [Bool.and_eq_true, decide_eq_true_eq] at ht
  obtain ⟨⟨t1, t2⟩, t3⟩ := ht
  unfold alertsB at ha
  simp only [Bool.and_eq_true, decide_eq_true_eq] at ha
  obtain ⟨⟨⟨a1, a2⟩, a3⟩, a4⟩ := ha
  obtain ⟨_, _, b2, _, _⟩ := confB_iff s hc
  refine ⟨hc, hn, ⟨by omega, by omega⟩, ⟨a1, by omega⟩, w1, v1, ?_, t2, bornF_at t1.symm t3, by omega, alertF_all a4⟩
  rw [t1]
  unfold birthsV
  split
  · rw [birthsL_len]
    omega
  · simp; omega

/-! The bytes of a state. -/
def winBy (s : StP) (l : List SeenT) : List Int := l.flatMap fun t => seenTW t s.c0

def alertsBy (l : List AlertT) : List Int := l.flatMap alertBytes

noncomputable def putSt (s : StP) : List Int :=
 natsB s.conf ++ (putsU s.count.toNat ++ (putsU s.last.toNat ++ (putsU s.seq.toNat ++ (winBy s s.win ++ (forestBy s.forest ++ (putsU s.alerts.length ++ alertsBy s.alerts))))))

theorem conf_pos {s : StP} (h : s.confB = true) : ∀ x ∈ s.conf, 0 ≤ x ∧ x ≤ 1000 := confB11_pos _ _ _ _ _ _ _ _ _ _ _ h

theorem forestBy_28 {s : StP} (h : RightP s) : ((forestBy s.forest).length : Int) ≤ 1 + s.c2 * (8 + s.c3 + (s.c3 - 1) * (7 + s.c0)) := by
 obtain ⟨b0, _, b2, b3, _⟩ := confB_iff s h.conf
 have hl := isF_len h.isF
 have h0 : forestBy s.forest = putsU s.forest.length ++ s.forest.flatMap grownBy' := by unfold forestBy; rw [if_pos h.isF]
 have h1 := putsU_1 (n := s.forest.length) (by omega)
 have hM : 0 ≤ (s.c3 - 1) * (7 + s.c0) := Int.mul_nonneg (by omega) (by omega)
 obtain ⟨M, hMM⟩ : ∃ M, (s.c3 - 1) * (7 + s.c0) = M := ⟨_, rfl⟩
 have h2 := flatMap_len (g := grownBy') (c := (8 + s.c3 + M).toNat) (l := s.forest) (fun g hg => by
  obtain ⟨i, hi⟩ := List.getElem?_of_mem hg
  obtain ⟨g1, g2, _⟩ := isF_at h.isF hi
  obtain ⟨g3, g4⟩ := h.trees g hg
  have := (treeBy_len28 g2 g3 g4).2.2.2.2
  have e1 := putsU_le 6 g.2.toNat (by omega) (by omega)
  unfold grownBy'
  rw [List.length_append]
  rw [hMM] at this
  omega)
 rw [hMM] at hM ⊢
 rw [h0, List.length_append]
 have e1 : ((s.forest.length * (8 + s.c3 + M).toNat : Nat) : Int) ≤ s.c2 * (8 + s.c3 + M) := by
  rw [Int.natCast_mul, Int.toNat_of_nonneg (by omega)]
  exact Int.mul_le_mul_of_nonneg_right h.forL (by omega)
 omega

theorem putSt_most {s : StP} (h : RightP s) : ((putSt s).length : Int) ≤ mostV s.confB s.c0 s.c1 s.c2 s.c3 s.c9 := by
 obtain ⟨b0, b1, b2, b3, b9⟩ := confB_iff s h.conf
 obtain ⟨n1, n2⟩ := h.count
 obtain ⟨l1, l2⟩ := h.last
 obtain ⟨q1, q2⟩ := h.seq
 have e1 := natsB_len3 (conf_pos h.conf)
 have e2 := putsU_le 6 s.count.toNat (by omega) (by omega)
 have e3 := putsU_le 6 s.last.toNat (by omega) (by omega)
 have e4 := putsU_le 6 s.seq.toNat (by omega) (by omega)
 have e5 := flatMap_len (g := fun t => seenTW t s.c0) (c := (15 + 5 * s.c0).toNat) (l := s.win) (fun t ht => by have := seenTW_len (h.win t ht); omega)
 have e6 := forestBy_28 h
 have hal := h.alL
 have e7 := putsU_1 (n := s.alerts.length) (by omega)
 have e8 := flatMap_len (g := alertBytes) (c := 28) (l := s.alerts) (fun a ha => alertBytes_28 (h.al a ha))
 have e9 : ((s.win.length * (15 + 5 * s.c0).toNat : Nat) : Int) ≤ s.c1 * (15 + 5 * s.c0) := by
  rw [Int.natCast_mul, Int.toNat_of_nonneg (by omega)]
  have := h.winL
  exact Int.mul_le_mul_of_nonneg_right (by omega) (by omega)
 have hcl : s.conf.length = 11 := rfl
 unfold mostV
 rw [if_pos h.conf]
 generalize s.c1 * (15 + 5 * s.c0) = X1 at *
 generalize s.c2 * (8 + s.c3 + (s.c3 - 1) * (7 + s.c0)) = X2 at *
 unfold putSt winBy alertsBy
 simp only [List.length_append]
 omega

theorem putSt_len {s : StP} (h : RightP s) : (putSt s).length ≤ 40000 := by
 obtain ⟨b0, b1, b2, b3, b9⟩ := confB_iff s h.conf
 have := putSt_most h
 unfold mostV at this
 rw [if_pos h.conf] at this
 have h1 : s.c1 * (15 + 5 * s.c0) ≤ 256 * 55 := Int.mul_le_mul (by omega) (by omega) (by omega) (by omega)
 have h2 : (s.c3 - 1) * (7 + s.c0) ≤ 63 * 15 := Int.mul_le_mul (by omega) (by omega) (by omega) (by omega)
 have h3 : 0 ≤ (s.c3 - 1) * (7 + s.c0) := Int.mul_nonneg (by omega) (by omega)
 have h4 : s.c2 * (8 + s.c3 + (s.c3 - 1) * (7 + s.c0)) ≤ 16 * 1017 := Int.mul_le_mul (by omega) (by omega) (by omega) (by omega)
 generalize s.c1 * (15 + 5 * s.c0) = X1 at *
 generalize s.c2 * (8 + s.c3 + (s.c3 - 1) * (7 + s.c0)) = X2 at *
 omega

theorem all_app {a b : List Int} (ha : AllB a) (hb : AllB b) : AllB (a ++ b) := fun x hx => (List.mem_append.1 hx).elim (ha x) (hb x)

theorem all_flat {α : Type} {g : α → List Int} {l : List α} (h : ∀ x ∈ l, AllB (g x)) : AllB (l.flatMap g) := fun x hx => by
 obtain ⟨y, hy, hx⟩ := List.mem_flatMap.1 hx
 exact h y hy x hx

theorem score_all (p : Int × Int) : AllB (scoreBytes p) := by
 unfold scoreBytes
 split
 ·exact all_app (putsU_all _) (putsU_all _)
 ·intro x hx; simp at hx

theorem seen_all (t : SeenT) (dim : Int) : AllB (seenTW t dim) := by
 unfold seenTW seenBytes
 split
 ·refine all_app (all_app (putsU_all _) (putsIs_all _)) ?_
  split
  ·exact all_app (putsU_all _) (score_all _)
  ·exact putsU_all _
 ·intro x hx; simp at hx

theorem alert_all (a : AlertT) : AllB (alertBytes a) := all_app (all_app (all_app (putsU_all _) (putsU_all _)) (score_all _)) (score_all _)

theorem putSt_all (s : StP) : AllB (putSt s) :=
 all_app (all_flat fun _ _ => putsU_all _) (all_app (putsU_all _) (all_app (putsU_all _) (all_app (putsU_all _) (all_app (all_flat fun _ _ => seen_all _ _) (all_app (forestBy_all _) (all_app (putsU_all _) (all_flat fun _ _ => alert_all _)))))))
end Go.Proofs.YtgobbecpnjelmaaGreat

namespace Go.Proofs.YtgobbecpnjelmaaGreat
open Go.RowKit

theorem eiGrown : EI Tryz.prog 108 (.agg #[.int .i64 0, .slice none 0 0, .int .i64 0]) 3 40 := .of rJ rfl (by decide) (by decide)

end Go.Proofs.YtgobbecpnjelmaaGreat

namespace Go.Proofs.YtgobbecpnjelmaaGreat
open Go.RowKit

theorem growns_nil (w : World) (c : Nat) (hc : c ≤ 9223372036854775807) : GrownsR w (.slice none 0 c) [] := ⟨none, c, rfl, by simp, hc, by simp, fun i p hi => by simp at hi⟩

end Go.Proofs.YtgobbecpnjelmaaGreat

namespace Go.Proofs.YtgobbecpnjelmaaGreat
open Go.RowKit

/-- v is a slice of nodes that lies in blocks from B on, but for the block r. -/
def ApartB (B : Nat) (r : Option Nat) (w : World) (v : Value) (l : List NodeP) : Prop := ∀ W : World, (∀ b, B ≤ b → r ≠ some b → b < w.heap.size → W.heap[b]? = w.heap[b]?) → w.heap.size ≤ W.heap.size → NodesR W v l

theorem NodesF.apartB {B C : Nat} {w : World} {v : Value} {l : List NodeP} (h : NodesF B w v l) {r : Option Nat} (hC : C ≤ B) (hr : ∀ b, r = some b → b < B) : ApartB C r w v l := fun W hW hz => h W (fun b h1 h2 => hW b (by omega) (fun e => by have := hr b e; omega) h2) hz

theorem ApartB.now {B : Nat} {r : Option Nat} {w : World} {v : Value} {l : List NodeP} (h : ApartB B r w v l) : NodesR w v l := h w (fun _ _ _ _ => rfl) (Nat.le_refl _)

theorem ApartB.later {B C : Nat} {r : Option Nat} {w w1 : World} {v : Value} {l : List NodeP} (h : ApartB B r w v l) (hb : Below C w w1) (hC : w.heap.size ≤ C) : ApartB B r w1 v l := fun W hW hz =>
 h W (fun b h0 h1 h2 => (hW b h0 h1 (Nat.lt_of_lt_of_le h2 hb.size)).trans (hb.block b (by omega))) (Nat.le_trans hb.size hz)

theorem ApartB.grown {B : Nat} {w w1 : World} {u u' v : Value} {l : List NodeP} (h : ApartB B u.ownBlock w v l) (hg : w.grownBy w1 u.ownBlock) (hn : NewB w u u') : ApartB B u'.ownBlock w1 v l := fun W hW hz =>
 h W (fun b h0 h1 h2 => (hW b h0 (fun e => by
  rcases hn with e2 | ⟨q, e2, hq⟩
  ·exact h1 (by rw [← e2]; exact e)
  ·rw [e2] at e
   injection e with e
   omega) (Nat.lt_of_lt_of_le h2 hg.size)).trans (hg.block b h2 (fun e => h1 e.symm))) (Nat.le_trans hg.size hz)

theorem ApartB.set {B : Nat} {r : Option Nat} {w : World} {v : Value} {l : List NodeP} (h : ApartB B r w v l) (b o : Nat) (u : Value) (hb : b < B ∨ r = some b) : ApartB B r (w.setCell ⟨b, o, none⟩ u) v l := fun W hW hz =>
 h W (fun q h0 h1 h2 => (hW q h0 h1 (by simpa using h2)).trans (Below.heap_setCell _ _ _ _ (fun e => by
  have e' : q = b := e
  subst e'
  rcases hb with h | h
  ·omega
  ·exact h1 h))) (by simpa using hz)

/-- app1N at a step of a region that draws its order. -/
theorem app1N_step {P : Program} {ops : Array Oper} {o : Oper} {a : Act} {K : Act → World → Prop} {Q : Exit → Act → World → Prop} {E : Prop} (hgd : o.guard = none) (s x : Operand) (t : TypeId)
  (ho : o.op = .call { callee := .builtin .append, args := #[s, x], argTypes := #[t, t] })
  {e : TypeId} {z : Value} {size bytes : Nat} (ht : P.underlying t = some (.slice e)) (hE : EI P e z size bytes)
  (base : Nat) {v : Value} {n : Nat} {xs : List Value} {W : World} {cs : Array Value} {T : TypeId} {C : Nat} (hs : a.eval s = v) (hown : W.ownsRow base e size v n xs)
  {b : Nat} (hx : a.eval x = .slice (some ⟨b, 0, none⟩) 1 C) (hbk : b = W.heap.size) (hcs : cs.size = size) (h1 : ∀ u ∈ cs.toList, u.oneCell' = true)
  (hbytes : (n + 1) * bytes ≤ 140737488355328) (hbase : base ≤ W.heap.size)
  (h : ∀ v' w', w'.ownsRow base e size v' (n + 1) (xs ++ cs.toList) → W.grownBy w' v.ownBlock → NewB W v v' → K (a.put o.dst v') w') :
  if Region.wanted o (yielded ops a.tmps) = true then o.wp P a (W.alloc (.cells cs T)) K Q else E := by
 have hw : Region.wanted o (yielded ops a.tmps) = true := by unfold Region.wanted; rw [hgd]
 rw [if_pos hw]
 subst hbk
 obtain ⟨i, hi, hz, hsize, hby, hzs, hsz, hbp⟩ := hE
 have h63 : n + 1 ≤ 140737488355328 := Nat.le_trans (Nat.le_mul_of_pos_right _ hbp) hbytes
 obtain ⟨v', w', hrun, h2, hg, _, h5⟩ := run_append_own_at (P := P) (W.alloc (.cells cs T)) base t o.type e i z size bytes ht hi hz hsize hby hzs hsz v n xs (hown.alloc _) ⟨W.heap.size, 0, none⟩ 1 C cs.toList (by simp [hcs]) (by
  intro j u hu
  have hadd : (⟨W.heap.size, 0, none⟩ : Addr).add j = ⟨W.heap.size, j, none⟩ := by unfold Addr.add; split <;> simp_all
  rw [hadd]
  have hb := heap_alloc_new W (.cells cs T)
  simp only [World.cell?, hb]
  simpa using hu) h1 (by unfold maxLen; omega) hbytes (by simp; omega)
 unfold Oper.wp execOp
 simp only [ho, resolve, invoke, builtin, Sem.run_bind, Sem.run_pure, Result.andThen_ok, List.map_toArray, List.map_cons, List.map_nil, hs, hx, hrun]
 refine h v' w' h2 ⟨hg.os, hg.tape, hg.output, by have := hg.size; simp at this; omega, fun k hk hn => (hg.block k (by simp; omega) hn).trans ((Ba (B := W.heap.size) (Below.refl _ W)).block k hk)⟩ ?_
 rcases h5 with h | h
 ·exact .inl h
 ·exact .inr ⟨_, h, by simp⟩

end Go.Proofs.YtgobbecpnjelmaaGreat

namespace Go.Proofs.YtgobbecpnjelmaaGreat
open Go.RowKit

/-- Nodes under way in the reference: a row from B on; what is read lies below B; all lies below K. -/
structure RN (B K : Nat) (v : Value) (l : List Int) (U : World) (ov : Value) (ps : List (NodeP × Value)) : Prop where
 hK : B ≤ K ∧ K ≤ U.heap.size
 vi : Ints .u8 U v l
 vb : l ≠ [] → ∀ g, AtB v g → g < B
 ou : U.ownsRow B 112 5 ov ps.length (ps.flatMap rowN)
 ok : ∀ g, ov.ownBlock = some g → g < K
 cf : ∀ p ∈ ps, Ints .i64 U p.2 p.1.coef ∧ (p.1.coef ≠ [] → ∀ g, AtB p.2 g → B ≤ g ∧ g < K ∧ ov.ownBlock ≠ some g)

theorem ints_kept8 {k : IntKind} {w w' : World} {v : Value} {l : List Int} (h : Ints k w v l) (hk : l ≠ [] → ∀ g, AtB v g → w'.heap[g]? = w.heap[g]?) (hz : w.heap.size ≤ w'.heap.size) : Ints k w' v l := by
 obtain ⟨a, c, rfl, h1, h2, h3, h4⟩ := h
 refine ⟨a, c, rfl, h1, h2, h3, fun i x hi => ?_⟩
 obtain ⟨b, o, rfl, hb, hc⟩ := h4 i x hi
 exact ⟨b, o, rfl, Nat.lt_of_lt_of_le hb hz, (World.cell?_of_block (a := ⟨b, _, none⟩) (hk (fun e => by rw [e] at hi; simp at hi) b ⟨o, _, _, rfl⟩)).trans hc⟩

section
variable {B K : Nat} {v ov : Value} {l : List Int} {U U' : World} {ps : List (NodeP × Value)}

theorem RN.over (S : RN B K v l U ov ps) (hb : ∀ b, b < K → U'.heap[b]? = U.heap[b]?) (hz : U.heap.size ≤ U'.heap.size) : RN B K v l U' ov ps := by
 have hK := S.hK
 refine ⟨⟨hK.1, Nat.le_trans hK.2 hz⟩, ints_kept8 S.vi (fun h g hg => hb g (by have := S.vb h g hg; omega)) hz, S.vb, own_at S.ou fun g hg => hb g (S.ok g hg), S.ok, fun p hp => ?_⟩
 obtain ⟨g1, g2⟩ := S.cf p hp
 exact ⟨ints_kept' g1 (fun h g hgo => hb g (g2 h g hgo).2.1) hz, g2⟩

theorem RN.later (S : RN B K v l U ov ps) (h : Below K U U') : RN B K v l U' ov ps := S.over (fun b hb => h.block b hb) h.size

theorem RN.up (S : RN B K v l U ov ps) {K' : Nat} (h : K ≤ K') (h' : K' ≤ U.heap.size) : RN B K' v l U ov ps :=
 ⟨⟨Nat.le_trans S.hK.1 h, h'⟩, S.vi, S.vb, S.ou, fun g hg => Nat.lt_of_lt_of_le (S.ok g hg) h, fun p hp => ⟨(S.cf p hp).1, fun hh g hg => by obtain ⟨q1, q2, q3⟩ := (S.cf p hp).2 hh g hg; exact ⟨q1, by omega, q3⟩⟩⟩

theorem RN.ub {g : Nat} (S : RN B K v l U ov ps) (h : ov.ownBlock = some g) : B ≤ g ∧ g < K := ⟨(S.ou.lt g h).1, S.ok g h⟩

theorem RN.add {ov' cv : Value} {n : NodeP} (S : RN B K v l U ov ps) (hi : Ints .i64 U cv n.coef) (hc : n.coef ≠ [] → ∀ g, AtB cv g → B ≤ g ∧ g < U.heap.size ∧ ov.ownBlock ≠ some g)
  (ho : U'.ownsRow B 112 5 ov' (ps.length + 1) (ps.flatMap rowN ++ rowN (n, cv))) (hg : U.grownBy U' ov.ownBlock) (hn : NewB U ov ov') : RN B U'.heap.size v l U' ov' (ps ++ [(n, cv)]) := by
 have hK := S.hK
 have hz := hg.size
 have keep : ∀ b, b < U.heap.size → ov.ownBlock ≠ some b → U'.heap[b]? = U.heap[b]? := fun b h1 h2 => hg.block b h1 (fun e => h2 e.symm)
 have hno : ∀ g, g < U.heap.size → ov.ownBlock ≠ some g → ov'.ownBlock ≠ some g := fun g h1 h2 => by
  rcases hn with h | ⟨b, h, hb⟩
  ·rw [h]; exact h2
  ·rw [h]; intro e; injection e with e; omega
 refine ⟨⟨by omega, Nat.le_refl _⟩, ints_kept8 S.vi (fun h g hgo => keep g (by have := S.vb h g hgo; omega) (fun e => by have := S.vb h g hgo; have := (S.ub e).1; omega)) hz, S.vb, ?_, fun g h => (ho.lt g h).2, fun p hp => ?_⟩
 ·rw [List.length_append, List.flatMap_append]
  simpa using ho
 ·rcases List.mem_append.1 hp with hp | hp
  ·obtain ⟨g1, g2⟩ := S.cf p hp
   refine ⟨ints_kept' g1 (fun h g hgo => keep g (by have := (g2 h g hgo).2.1; omega) (g2 h g hgo).2.2) hz, fun h g hgo => ?_⟩
   obtain ⟨q1, q2, q3⟩ := g2 h g hgo
   exact ⟨q1, by omega, hno g (by omega) q3⟩
  ·obtain rfl : p = (n, cv) := by simpa using hp
   refine ⟨ints_kept' hi (fun h g hgo => keep g (hc h g hgo).2.1 (hc h g hgo).2.2) hz, fun h g hgo => ?_⟩
   obtain ⟨q1, q2, q3⟩ := hc h g hgo
   exact ⟨q1, by omega, hno g q2 q3⟩

/-- A number of a node is stored: which is what it is told by f. -/
theorem RN.store {g n c : Nat} {qs : List (NodeP × Value)} {k : Nat} {u : Value} (S : RN B K v l U (.slice (some ⟨g, 0, none⟩) n c) ps) (hl : qs.length = ps.length) (hs : (ps.flatMap rowN).set k u = qs.flatMap rowN) (hm : ∀ p ∈ qs, ∃ q ∈ ps, q.2 = p.2 ∧ q.1.coef = p.1.coef) :
  RN B K v l (U.setCell ⟨g, k, none⟩ u) (.slice (some ⟨g, 0, none⟩) n c) qs := by
 have hK := S.hK
 have hnc : n = ps.length := by
  have h := S.ou
  rcases h.2 with ⟨h1, _⟩ | ⟨g', cap, cur, h1, _⟩
  ·cases h1
  ·injection h1 with _ h1
 subst hnc
 have hgl : B ≤ g ∧ g < K := S.ub rfl
 have keep : ∀ b, b ≠ g → (U.setCell ⟨g, k, none⟩ u).heap[b]? = U.heap[b]? := fun b hb => Below.heap_setCell _ _ _ _ hb
 refine ⟨⟨hK.1, by simpa using hK.2⟩, ints_kept8 S.vi (fun h b hb => keep b (by have := S.vb h b hb; omega)) (by simp), S.vb, ?_, S.ok, fun p hp => ?_⟩
 ·rw [hl, ← hs]
  exact own_setAt S.ou _ _
 ·obtain ⟨q, hq, e1, e2⟩ := hm p hp
  obtain ⟨g1, g2⟩ := S.cf q hq
  rw [e1, e2] at g1
  rw [e1, e2] at g2
  exact ⟨ints_kept' g1 (fun h b hb => keep b (fun e => (g2 h b hb).2.2 (by rw [e]; rfl))) (by simp), g2⟩
end

/-- A row of the call's own has grown. -/
structure Grew (w : World) (ov : Value) (W : World) (ov' : Value) : Prop where
 gr : w.grownBy W ov.ownBlock
 nb : NewB w ov ov'

theorem Grew.refl (w : World) (ov : Value) : Grew w ov w ov := ⟨⟨rfl, rfl, rfl, Nat.le_refl _, fun _ _ _ => rfl⟩, .inl rfl⟩

theorem Grew.trans {w W W2 : World} {ov ov' ov2 : Value} (h : Grew w ov W ov') (k : Grew W ov' W2 ov2) : Grew w ov W2 ov2 := by
 have hz := h.gr.size
 have kz := k.gr.size
 refine ⟨⟨k.gr.os.trans h.gr.os, k.gr.tape.trans h.gr.tape, k.gr.output.trans h.gr.output, Nat.le_trans hz kz, fun b h1 h2 => (k.gr.block b (by omega) (fun e => ?_)).trans (h.gr.block b h1 h2)⟩, ?_⟩
 ·rcases h.nb with e2 | ⟨q, e2, hq⟩
  ·exact h2 (e.trans e2)
  ·rw [e2] at e
   injection e with e
   omega
 ·rcases k.nb with e2 | ⟨q, e2, hq⟩
  ·rcases h.nb with e3 | ⟨q, e3, hq⟩
   ·exact .inl (e2.trans e3)
   ·exact .inr ⟨q, e2.trans e3, hq⟩
  ·exact .inr ⟨q, e2, by omega⟩

theorem Grew.below {w W W2 : World} {ov ov' : Value} (h : Grew w ov W ov') (k : Below W.heap.size W W2) : Grew w ov W2 ov' :=
 h.trans ⟨⟨k.os, k.tape, k.output, k.size, fun b hb _ => k.block b hb⟩, .inl rfl⟩

theorem Grew.new {w W : World} {ov ov' : Value} (h : Grew w ov W ov') (x : Obj) : Grew w ov (W.alloc x) ov' := h.below ((Below.refl _ _).alloc (Nat.le_refl _) x)

theorem Grew.drew {w W : World} {ov ov' : Value} (h : Grew w ov W ov') : Grew w ov W.drew ov' := h.below (Below.refl _ _).drew

theorem Grew.set {w W : World} {ov ov' : Value} (N o : Nat) (u : Value) (hN : w.heap.size ≤ N ∨ ov'.ownBlock = some N) (h : Grew w ov W ov') : Grew w ov (W.setCell ⟨N, o, none⟩ u) ov' := by
 refine ⟨⟨h.gr.os, h.gr.tape, h.gr.output, by simpa using h.gr.size, fun b h1 h2 => (Below.heap_setCell _ _ _ _ (show b ≠ N from fun e => ?_)).trans (h.gr.block b h1 h2)⟩, h.nb⟩
 subst e
 rcases hN with hN | hN
 ·omega
 ·rcases h.nb with e2 | ⟨q, e2, hq⟩
  ·exact h2 (hN.symm.trans e2)
  ·rw [e2] at hN
   injection hN with hN
   omega

/-- No list of numbers lies in the block X. -/
def OffB (X : Nat) (ps : List (NodeP × Value)) : Prop := ∀ p ∈ ps, p.1.coef ≠ [] → ∀ g, AtB p.2 g → g ≠ X

/-- All lists of numbers lie from M on. -/
def FromB (M : Nat) (ps : List (NodeP × Value)) : Prop := ∀ p ∈ ps, p.1.coef ≠ [] → ∀ g, AtB p.2 g → M ≤ g

theorem FromB.off {M X : Nat} {ps : List (NodeP × Value)} (h : FromB M ps) (hX : X < M) : OffB X ps := fun p hp hc g hg => by have := h p hp hc g hg; omega

theorem OffB.app {X : Nat} {ps qs : List (NodeP × Value)} (h : OffB X ps) (k : OffB X qs) : OffB X (ps ++ qs) := fun p hp => (List.mem_append.1 hp).elim (h p) (k p)

theorem FromB.app {X : Nat} {ps qs : List (NodeP × Value)} (h : FromB X ps) (k : FromB X qs) : FromB X (ps ++ qs) := fun p hp => (List.mem_append.1 hp).elim (h p) (k p)

theorem FromB.low {X Y : Nat} {ps : List (NodeP × Value)} (h : FromB X ps) (k : Y ≤ X) : FromB Y ps := fun p hp hc g hg => Nat.le_trans k (h p hp hc g hg)

section
variable {B K : Nat} {v ov : Value} {l : List Int} {U U' : World} {ps : List (NodeP × Value)}

theorem RN.new (S : RN B K v l U ov ps) (x : Obj) : RN B K v l (U.alloc x) ov ps := S.later ((Below.refl _ _).alloc S.hK.2 x)

theorem RN.drew (S : RN B K v l U ov ps) : RN B K v l U.drew ov ps := S.later (Below.refl _ _).drew

theorem RN.here (S : RN B K v l U ov ps) : RN B U.heap.size v l U ov ps := S.up S.hK.2 (Nat.le_refl _)

end

theorem below_grown {B : Nat} {a m w : World} {r : Option Nat} (h : Below B a m) (g : m.grownBy w r) (hr : ∀ x, r = some x → B ≤ x) (hB : B ≤ m.heap.size) : Below B a w :=
 below_tr h ⟨g.os, g.tape, g.output, g.size, fun k hk => g.block k (by omega) (fun e => by have := hr k e.symm; omega)⟩

theorem Grew.off {w W : World} {ov ov' : Value} (h : Grew w ov W ov') {X : Nat} (h1 : ov.ownBlock ≠ some X) (h2 : X < w.heap.size) : ov'.ownBlock ≠ some X := by
 rcases h.nb with e | ⟨q, e, hq⟩
 ·rw [e]; exact h1
 ·rw [e]; intro e2; injection e2 with e2; omega

theorem OffB.same {X : Nat} {ps qs : List (NodeP × Value)} (h : OffB X ps) (hm : ∀ p ∈ qs, ∃ q ∈ ps, q.2 = p.2 ∧ q.1.coef = p.1.coef) : OffB X qs := fun p hp hc g hg => by
 obtain ⟨q, hq, e1, e2⟩ := hm p hp
 exact h q hq (by rw [e2]; exact hc) g (by rw [e1]; exact hg)

end Go.Proofs.YtgobbecpnjelmaaGreat

namespace Go.Proofs.YtgobbecpnjelmaaGreat
open Go.RowKit

theorem eqSeens_u (a b : Option Addr) (c d : Nat) (w : World) :
  Calls Tryz.prog 39 #[.slice a 0 c, .slice b 0 d, .func (.func 40) #[] #[]] w fun e w' => e = .returned (.bool true) ∧ Below w.heap.size w w' := by
 go_enter Tryz.func39, Tryz.ntmps39
 go_wp2_with fail
 go_loopw [7, 8, 9, 17] (fun _ _ _ iv wr => iv = .int .i64 0 ∧ Below w.heap.size w wr) (fun _ _ _ _ _ => 0)
 case atStart => exact ⟨rfl, bw⟩
 case round =>
  obtain ⟨rfl, hb⟩ := hrel
  go_wp2_with fail
  go_ret
  exact ⟨rfl, hb⟩

theorem eqAlerts_u (a b : Option Addr) (c d : Nat) (w : World) :
  Calls Tryz.prog 42 #[.slice a 0 c, .slice b 0 d] w fun e w' => e = .returned (.bool true) ∧ Below w.heap.size w w' := by
 go_enter Tryz.func42, Tryz.ntmps42
 go_wp2_with fail
 go_loopw [5, 13] (fun _ iv wr => iv = .int .i64 0 ∧ Below w.heap.size w wr) (fun _ _ _ => 0)
 case atStart => exact ⟨rfl, bw⟩
 case round =>
  obtain ⟨rfl, hb⟩ := hrel
  go_wp2_with fail
  go_ret
  exact ⟨rfl, hb⟩

theorem fsame_u (a b : Option Addr) (c d : Nat) (w : World) : Calls Tryz.prog 41 #[.slice a 0 c, .slice b 0 d] w fun e w' => e = .returned (.bool true) ∧ Below w.heap.size w w' := by
 go_enter Tryz.func41, Tryz.ntmps41
 go_wp2_with fail
 go_loopw [5, 6, 14] (fun _ _ iv wr => iv = .int .i64 0 ∧ Below w.heap.size w wr) (fun _ _ _ _ => 0)
 case atStart => exact ⟨rfl, bw⟩
 case round =>
  obtain ⟨rfl, hb⟩ := hrel
  go_wp2_with fail
  go_ret
  exact ⟨rfl, hb⟩

set_option maxRecDepth 100000 in
set_option maxHeartbeats 16000000 in
theorem ssame_u (wa fa aa : Option Addr) (wc fc ac : Nat) (w : World) : Calls Tryz.prog 12 #[.agg #[.int .i64 2, .int .i64 16, .int .i64 2, .int .i64 8, .int .i64 5, .int .i64 1, .int .i64 1, .int .i64 10, .int .i64 4, .int .i64 3, .int .i64 9, .int .i64 0, .int .i64 0, .int .i64 0, .slice none 0 0, .slice none 0 0, .slice none 0 0], .agg #[.int .i64 2, .int .i64 16, .int .i64 2, .int .i64 8, .int .i64 5, .int .i64 1, .int .i64 1, .int .i64 10, .int .i64 4, .int .i64 3, .int .i64 9, .int .i64 0, .int .i64 0, .int .i64 0, .slice wa 0 wc, .slice fa 0 fc, .slice aa 0 ac]] w fun e w' => e = .returned (.bool true) ∧ Below w.heap.size w w' := by
 have H1 := hH (fun W => eqSeens_u none wa 0 wc W)
 have H2 := hH (fun W => fsame_u none fa 0 fc W)
 have H3 := hH (fun W => eqAlerts_u none aa 0 ac W)
 go_enter Tryz.func12, Tryz.ntmps12
 go_wp2_with fail
 (with_reducible refine (H1.out _).mono ?_); rintro e w1 ⟨rfl, b1⟩; have s1 : w.heap.size + 1 + 1 ≤ w1.heap.size := sz b1; have B1 := hJ w b1; have c1_0 : w1.cell? ⟨w.heap.size, 15, none⟩ = some (.slice none 0 0) := kC b1; have c1_1 : w1.cell? ⟨w.heap.size + 1, 15, none⟩ = some (.slice fa 0 fc) := kC b1; have c1_2 : w1.cell? ⟨w.heap.size, 16, none⟩ = some (.slice none 0 0) := kC b1; have c1_3 : w1.cell? ⟨w.heap.size + 1, 16, none⟩ = some (.slice aa 0 ac) := kC b1; obtain ⟨l1_0, n1_0, m1_0⟩ := lnm (show w.heap.size < w1.heap.size by omega); obtain ⟨l1_1, n1_1, m1_1⟩ := lnm (show w.heap.size + 1 < w1.heap.size by omega); clear b1
 go_wp2_with fail
 (with_reducible refine (H2.out _).mono ?_); rintro e w2 ⟨rfl, b2⟩; have s2 : w1.heap.size ≤ w2.heap.size := sz b2; have B2 := bJ B1.out b2; have c2_0 : w2.cell? ⟨w.heap.size, 16, none⟩ = some (.slice none 0 0) := kC b2; have c2_1 : w2.cell? ⟨w.heap.size + 1, 16, none⟩ = some (.slice aa 0 ac) := kC b2; obtain ⟨l2_0, n2_0, m2_0⟩ := lnm (show w.heap.size < w2.heap.size by omega); obtain ⟨l2_1, n2_1, m2_1⟩ := lnm (show w.heap.size + 1 < w2.heap.size by omega); clear b2
 go_wp2_with fail
 (with_reducible refine (H3.out _).mono ?_); rintro e w3 ⟨rfl, b3⟩; have s3 : w2.heap.size ≤ w3.heap.size := sz b3; have B3 := bJ B2.out b3; clear b3
 go_wp2_with fail
 go_ret
 exact ⟨rfl, bx B3.out⟩

set_option maxRecDepth 100000 in
set_option maxHeartbeats 8000000 in
theorem sline_u (w : World) : Calls Tryz.prog 8 #[.agg #[.int .i64 2, .int .i64 16, .int .i64 2, .int .i64 8, .int .i64 5, .int .i64 1, .int .i64 1, .int .i64 10, .int .i64 4, .int .i64 3, .int .i64 9, .int .i64 0, .int .i64 0, .int .i64 0, .slice none 0 0, .slice none 0 0, .slice none 0 0]] w fun e w' => e = .returned (.tuple #[.agg #[.int .i64 0, .int .i64 0], .bool false]) ∧ Below w.heap.size w w' := by
 have HR := hH (fun W => usual_S ▸ sright28_any 2 16 2 8 5 1 1 10 4 3 9 0 0 0 none none none 0 0 0 0 0 0 [] [] [] W (by decide) (seens_nil _ _ (by omega)) rfl (growns_nilU _ _ (by omega)) rfl (alerts_nil _ _ (by omega)) rfl)
 go_enter Tryz.func8, Tryz.ntmps8
 go_upto_region 1 with fail
 have R0 := hH ((rowz_new (W := w) (T := 28) (cs := #[.int .i64 2, .int .i64 16, .int .i64 2, .int .i64 8, .int .i64 5, .int .i64 1, .int .i64 1, .int .i64 10, .int .i64 4, .int .i64 3, .int .i64 9, .int .i64 0, .int .i64 0, .int .i64 0, .slice none 0 0, .slice none 0 0, .slice none 0 0]) rfl).alloc (.cells #[.int .i64 0, .int .i64 0] 32))
 refine wp_region_lit ?_
 refine loadRow rfl 28 _ rfl R0.out (by rfl) Tryz.underlying28 rfl rJ ?_
 (try simp only [Act.put, List.setIfInBounds_toArray, List.set_cons_zero, List.set_cons_succ])
 go_wp2_with fail
 (with_reducible refine (HR.out _).mono ?_); rintro e w1 ⟨rfl, b1⟩; have s1 : w.heap.size + 1 + 1 ≤ w1.heap.size := sz b1; have B1 := hJ w b1; have c1_0 : w1.cell? ⟨w.heap.size, 3, none⟩ = some (.int .i64 8) := kC b1; have c1_1 : w1.cell? ⟨w.heap.size, 14, none⟩ = some (.slice none 0 0) := kC b1; obtain ⟨c1_2, f1_2, c1_3, f1_3⟩ := k2f (w.heap.size + 1) (.int .i64 0) (.int .i64 0) b1 aJ; obtain ⟨l1_0, n1_0, m1_0⟩ := lnm (show w.heap.size < w1.heap.size by omega); obtain ⟨l1_1, n1_1, m1_1⟩ := lnm (show w.heap.size + 1 < w1.heap.size by omega); clear b1
 go_wp2_with fail
 go_loopw [4, 6, 16] (fun lv _ iv wr => lv = .slice none 0 0 ∧ iv = .int .i64 0 ∧ w1 = wr) (fun _ _ _ _ => 0)
 case atStart => exact ⟨rfl, rfl, rfl⟩
 case round =>
  obtain ⟨rfl, rfl, rfl⟩ := hrel
  go_wp2_with fail
  exact bodyPost_ret (v := .tuple #[.agg #[.int .i64 0, .int .i64 0], .bool false]) (by simp [results, Tryz.results8, go_sem, *]) rfl ⟨rfl, bx B1.out⟩
end Go.Proofs.YtgobbecpnjelmaaGreat
