/-
  StateC: Walk of state.look.window.
-/
import Derived.Test.YtgobbecpnjelmaaGreatKAlertA
import Derived.Test.YtgobbecpnjelmaaGreatJ0c
import Derived.Test.YtgobbecpnjelmaaGreatJ0b
namespace Go.Proofs.YtgobbecpnjelmaaGreat
open Go.RowKit

def windowG (c0 c1 F count last : Int) (win : List SeenT) : Bool := decide ((win.length : Int) = min count c1) && decide (winF F c0 0 (count - win.length) win = some last)

theorem beq_someS (a b : Int) : (a == b) = decide (some b = some a) := by
 by_cases h : a = b
 ·simp [h]
 ·have h' : ¬ b = a := fun e => h e.symm
  simp [h, h']

theorem drop_atS {α : Type} {l : List α} {k : Nat} {a : α} (h : l[k]? = some a) : l.drop k = a :: l.drop (k + 1) := by
 obtain ⟨hk, e⟩ := List.getElem?_eq_some_iff.1 h
 rw [List.drop_eq_getElem_cons hk, e]

set_option maxRecDepth 100000 in
set_option maxHeartbeats 8000000 in
theorem lwindow_any (c0 c1 c2 c3 c4 c5 c6 c7 c8 c9 c10 : Int) (count last seq F : Int) (wa : Option Addr) (wn wc : Nat) (fv av : Value) (win : List SeenT) (w : World) (h : SeensR w (.slice wa wn wc) win) (hn : win.length = wn) (hc : 0 ≤ count ∧ count ≤ 1099511627776) :
  Calls Tryz.prog 32 #[.agg #[.int .i64 c0, .int .i64 c1, .int .i64 c2, .int .i64 c3, .int .i64 c4, .int .i64 c5, .int .i64 c6, .int .i64 c7, .int .i64 c8, .int .i64 c9, .int .i64 c10, .int .i64 count, .int .i64 last, .int .i64 seq, .slice wa wn wc, fv, av, .int .i64 F]] w fun e w' => e = .returned (.bool (windowG c0 c1 F count last win)) ∧ Below w.heap.size w w' := by
 have hwn : wn ≤ 140737488351232 := by obtain ⟨_, _, e, _, _, h3, _⟩ := h; omega
 have HS := hH h
 have HL := hH hn
 by_cases hl : (wn : Int) = min count c1
 ·have jl : ((wn : Int) != min count c1) = false := by simp [hl]
  have HW := hH (show windowG c0 c1 F count last win = decide (winF F c0 0 (count - wn) win = some last) from by unfold windowG; rw [hn, decide_eq_true hl, Bool.true_and])
  obtain ⟨hc1, hc2⟩ := hc
  have kwn : IntKind.i64.wrap (count - (wn : Int)) = count - (wn : Int) := by rw [IntKind.wrap_i64]; omega
  clear h hl
  go_enter Tryz.func32, Tryz.ntmps32
  go_wp2_with fail
  refine wp_region_held_drew (S := fun w' => w'.cell? ⟨w.heap.size, 11, none⟩ = some (.int .i64 count) ∧ w'.cell? ⟨w.heap.size, 14, none⟩ = some (.slice wa wn wc)) rJ kJ (fun hHeld => ?_); refine lJ 0 hHeld ?_; refine lJ 1 hHeld ?_; refine lJ 2 hHeld ?_; refine lJ 3 hHeld ?_; refine lJ 4 hHeld ?_; refine lJ 5 hHeld ?_; refine lJ 6 hHeld ?_; refine lJ 7 hHeld ?_; refine lJ 8 hHeld ?_; refine lJ 9 hHeld ?_; refine wpAnyH_done rJ ?_ _
  go_wp2_with fail
  go_loopw [3, 4, 6, 32] (fun lv nv _ iv wr => ∃ (k : Nat) (lst N : Int), iv = .int .i64 (k : Int) ∧ lv = .int .i64 lst ∧ nv = .int .i64 N ∧ N = count - wn + k ∧ k ≤ wn ∧ winF F c0 0 (count - wn) win = winF F c0 lst N (win.drop k) ∧ Below w.heap.size w wr ∧ w.heap.size < wr.heap.size ∧ (wr.cell? ⟨w.heap.size, 0, none⟩ = some (.int .i64 c0) ∧ wr.cell? ⟨w.heap.size, 12, none⟩ = some (.int .i64 last) ∧ wr.cell? ⟨w.heap.size, 17, none⟩ = some (.int .i64 F))) (fun _ _ _ iv _ => wn - (intOf iv).toNat)
  case atStart => exact ⟨0, 0, count - wn, rfl, rfl, by first | rfl | go_num, by omega, Nat.zero_le _, rfl, bw, by simp, by and_intros <;> go_simp⟩
  case round =>
   obtain ⟨k, lst, N, rfl, rfl, rfl, hN, hk, hst, hbi, hsz, k0, k12, k17⟩ := hrel
   rename World => wi
   have BI := hH hbi
   have HNN := hH hN
   have n1 : -140737488351232 ≤ N := by omega
   have n2 : N ≤ 1099511627776 + 140737488351232 := by omega
   by_cases hlt : k < wn
   ·obtain ⟨⟨id, x, P, Q, sc⟩, ht⟩ := getElem?_ex (l := win) (k := k) (by omega)
    obtain ⟨b, o, xa, xc, e, hb, q0, q1, q2, q3, q4, hx⟩ := (HS.out.below (show Below w.heap.size w wi from hbi)).at ht
    subst e
    dsimp only at q0 q1 q2 q3 q4 hx
    have HX := hH hx
    have HK := hH (show winF F c0 0 (count - wn) win = winF F c0 lst N ((id, x, P, Q, sc) :: win.drop (k + 1)) from by rw [hst, drop_atS ht])
    have i1 : (0 : Int) ≤ (k : Int) := by omega
    have i2 : (k : Int) < (wn : Int) := by omega
    obtain ⟨lz1, lz2, lz3⟩ := lnm (show w.heap.size < wi.heap.size from hsz)
    have HLT := hH hlt
    clear hbi hst ht hx hN hlt
    by_cases hid : id ≤ lst
    ·have HID := hH hid
     go_wp2_with fail
     go_ret
     exact ⟨ret_bool (by rw [HW.out, HK.out]; exact (decide_eq_false (by rw [winF_stop (.inl HID.out)]; simp)).symm), bx BI.out⟩
    ·have HN1 := hH hid
     cases sc with
     | true =>
      by_cases hgt : F < N + 1
      ·have HGT := hH (show (true : Bool) = decide (F < N + 1) from by simp [hgt])
       cases hR : seenTB (id, x, P, Q, true) c0 with
       | false =>
        have HRS := hH (fun W (hX : Ints .i64 W (.slice xa x.length xc) x) => show Calls Tryz.prog 75 #[.agg #[.int .i64 id, .slice xa x.length xc, .int .i64 P, .int .i64 Q, .bool true], .int .i64 c0] W fun e w' => e = .returned (.bool false) ∧ Below W.heap.size W w' from by
         have := rightSeen_any id P Q c0 true _ x W hX
         rw [show seenB id x P Q true c0 = false from hR] at this
         exact this)
        have HNO := hH hR
        clear hR
        go_wp2_with fail
        (with_reducible refine (HRS.out _ (HX.out.below bw)).mono ?_); rintro e w3 ⟨rfl, b3⟩; have s3 : wi.heap.size + 1 ≤ w3.heap.size := sz b3; have B3 := hH (Bc (B := w.heap.size) (a := w) (bx BI.out) b3); clear b3
        go_wp2_with fail
        go_ret
        exact ⟨ret_bool (by rw [HW.out, HK.out]; exact (decide_eq_false (by rw [winF_stop (.inr (.inr HNO.out))]; simp)).symm), bx B3.out⟩
       | true =>
        have HRS := hH (fun W (hX : Ints .i64 W (.slice xa x.length xc) x) => show Calls Tryz.prog 75 #[.agg #[.int .i64 id, .slice xa x.length xc, .int .i64 P, .int .i64 Q, .bool true], .int .i64 c0] W fun e w' => e = .returned (.bool true) ∧ Below W.heap.size W w' from by
         have := rightSeen_any id P Q c0 true _ x W hX
         rw [show seenB id x P Q true c0 = true from hR] at this
         exact this)
        have HGO := hH (winF_go (first := F) (last := lst) (n := N) (L := win.drop (k + 1)) (x := (id, x, P, Q, true)) (dim := c0) HN1.out HGT.out hR)
        clear hR
        go_wp2_with fail
        (with_reducible refine (HRS.out _ (HX.out.below bw)).mono ?_); rintro e w3 ⟨rfl, b3⟩; have s3 : wi.heap.size + 1 ≤ w3.heap.size := sz b3; have B3 := hH (Bc (B := w.heap.size) (a := w) (bx BI.out) b3); have c3_0 : w3.cell? ⟨w.heap.size, 0, none⟩ = some (.int .i64 c0) := kC b3; have c3_1 : w3.cell? ⟨w.heap.size, 12, none⟩ = some (.int .i64 last) := kC b3; have c3_2 : w3.cell? ⟨w.heap.size, 17, none⟩ = some (.int .i64 F) := kC b3; have c3_3 : w3.cell? ⟨wi.heap.size, 0, none⟩ = some (.int .i64 id) := kC b3; obtain ⟨l3_0, n3_0, m3_0⟩ := lnm (show w.heap.size < w3.heap.size by omega); obtain ⟨l3_1, n3_1, m3_1⟩ := lnm (show wi.heap.size < w3.heap.size by omega); clear b3
        go_wp2_with fail
        go_roundw
        case rel => exact ⟨k + 1, id, N + 1, by go_num, rfl, by go_num, by have := HNN.out; omega, by have := HLT.out; omega, by rw [HK.out, HGO.out], B3.out, by omega, by and_intros <;> with_reducible assumption⟩
        case measure => have := HLT.out; simp [intOf] <;> omega
      ·have HGT := hH (show decide (F < N + 1) = false from by simp [hgt])
       go_wp2_with fail
       go_ret
       exact ⟨ret_bool (by rw [HW.out, HK.out]; exact (decide_eq_false (by rw [winF_stop (.inr (.inl (by rw [HGT.out]; simp)))]; simp)).symm), bx BI.out⟩
     | false =>
      by_cases hgt : F < N + 1
      ·have HGT := hH (show decide (F < N + 1) = true from by simp [hgt])
       go_wp2_with fail
       go_ret
       exact ⟨ret_bool (by rw [HW.out, HK.out]; exact (decide_eq_false (by rw [winF_stop (.inr (.inl (by rw [HGT.out]; simp)))]; simp)).symm), bx BI.out⟩
      ·have HGT := hH (show (false : Bool) = decide (F < N + 1) from by simp [hgt])
       cases hR : seenTB (id, x, P, Q, false) c0 with
       | false =>
        have HRS := hH (fun W (hX : Ints .i64 W (.slice xa x.length xc) x) => show Calls Tryz.prog 75 #[.agg #[.int .i64 id, .slice xa x.length xc, .int .i64 P, .int .i64 Q, .bool false], .int .i64 c0] W fun e w' => e = .returned (.bool false) ∧ Below W.heap.size W w' from by
         have := rightSeen_any id P Q c0 false _ x W hX
         rw [show seenB id x P Q false c0 = false from hR] at this
         exact this)
        have HNO := hH hR
        clear hR
        go_wp2_with fail
        (with_reducible refine (HRS.out _ (HX.out.below bw)).mono ?_); rintro e w3 ⟨rfl, b3⟩; have s3 : wi.heap.size + 1 ≤ w3.heap.size := sz b3; have B3 := hH (Bc (B := w.heap.size) (a := w) (bx BI.out) b3); clear b3
        go_wp2_with fail
        go_ret
        exact ⟨ret_bool (by rw [HW.out, HK.out]; exact (decide_eq_false (by rw [winF_stop (.inr (.inr HNO.out))]; simp)).symm), bx B3.out⟩
       | true =>
        have HRS := hH (fun W (hX : Ints .i64 W (.slice xa x.length xc) x) => show Calls Tryz.prog 75 #[.agg #[.int .i64 id, .slice xa x.length xc, .int .i64 P, .int .i64 Q, .bool false], .int .i64 c0] W fun e w' => e = .returned (.bool true) ∧ Below W.heap.size W w' from by
         have := rightSeen_any id P Q c0 false _ x W hX
         rw [show seenB id x P Q false c0 = true from hR] at this
         exact this)
        have HGO := hH (winF_go (first := F) (last := lst) (n := N) (L := win.drop (k + 1)) (x := (id, x, P, Q, false)) (dim := c0) HN1.out HGT.out hR)
        clear hR
        go_wp2_with fail
        (with_reducible refine (HRS.out _ (HX.out.below bw)).mono ?_); rintro e w3 ⟨rfl, b3⟩; have s3 : wi.heap.size + 1 ≤ w3.heap.size := sz b3; have B3 := hH (Bc (B := w.heap.size) (a := w) (bx BI.out) b3); have c3_0 : w3.cell? ⟨w.heap.size, 0, none⟩ = some (.int .i64 c0) := kC b3; have c3_1 : w3.cell? ⟨w.heap.size, 12, none⟩ = some (.int .i64 last) := kC b3; have c3_2 : w3.cell? ⟨w.heap.size, 17, none⟩ = some (.int .i64 F) := kC b3; have c3_3 : w3.cell? ⟨wi.heap.size, 0, none⟩ = some (.int .i64 id) := kC b3; obtain ⟨l3_0, n3_0, m3_0⟩ := lnm (show w.heap.size < w3.heap.size by omega); obtain ⟨l3_1, n3_1, m3_1⟩ := lnm (show wi.heap.size < w3.heap.size by omega); clear b3
        go_wp2_with fail
        go_roundw
        case rel => exact ⟨k + 1, id, N + 1, by go_num, rfl, by go_num, by have := HNN.out; omega, by have := HLT.out; omega, by rw [HK.out, HGO.out], B3.out, by omega, by and_intros <;> with_reducible assumption⟩
        case measure => have := HLT.out; simp [intOf] <;> omega
   ·obtain rfl : k = wn := by omega
    have HE := hH (show winF F c0 0 (count - k) win = some lst from by rw [hst, List.drop_eq_nil_of_le (by have := HL.out; omega)]; rfl)
    clear hbi hst hN hlt
    go_wp2_with fail
    go_ret
    exact ⟨ret_bool (by rw [HW.out, HE.out]; exact beq_someS last lst), bx BI.out⟩
 ·have jl : ((wn : Int) != min count c1) = true := by simp [hl]
  have HW := hH (show windowG c0 c1 F count last win = false from by unfold windowG; rw [hn, decide_eq_false hl, Bool.false_and])
  clear h hl
  go_enter Tryz.func32, Tryz.ntmps32
  go_wp2_with fail
  go_ret
  exact ⟨ret_bool HW.out.symm, bw⟩
end Go.Proofs.YtgobbecpnjelmaaGreat
