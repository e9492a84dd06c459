/-
  StateH: Walk of copseref28.alerts.
-/
import Derived.Test.YtgobbecpnjelmaaGreatKStateD
namespace Go.Proofs.YtgobbecpnjelmaaGreat
open Go.RowKit

set_option maxRecDepth 100000 in
set_option maxHeartbeats 8000000 in
theorem ralerts_any (c0 c1 c2 c3 c4 c5 c6 c7 c8 c9 c10 : Int) (count last seq : Int) (aa : Option Addr) (an ac : Nat) (fv wv : Value) (al : List AlertT) (w : World) (h : AlertsR w (.slice aa an ac) al) (hn : al.length = an) (hc : 0 ≤ count ∧ count ≤ 1099511627776) :
  Calls Tryz.prog 38 #[.agg #[.int .i64 c0, .int .i64 c1, .int .i64 c2, .int .i64 c3, .int .i64 c4, .int .i64 c5, .int .i64 c6, .int .i64 c7, .int .i64 c8, .int .i64 c9, .int .i64 c10, .int .i64 count, .int .i64 last, .int .i64 seq, wv, fv, .slice aa an ac]] w fun e w' => e = .returned (.bool (alertsG c9 count last seq al)) ∧ Below w.heap.size w w' := by
 have hwn : an ≤ 140737488351232 := by obtain ⟨_, _, e, _, _, h3, _⟩ := h; omega
 have hwc : an ≤ ac ∧ ac ≤ 9223372036854775807 := by obtain ⟨_, _, e, h1, h2, _⟩ := h; injection e with _ _ e; omega
 obtain ⟨g1, g2⟩ := hwc
 have HS := hH h
 have HL := hH hn
 by_cases hb : seq < 0 ∨ count < seq ∨ c9 < (an : Int) ∨ seq < (an : Int)
 ·have HW := hH (show alertsG c9 count last seq al = false from by
   have : (decide (0 ≤ seq) && decide (seq ≤ count) && decide ((al.length : Int) ≤ min seq c9)) = false := by rw [hn]; simp; omega
   unfold alertsG
   rw [this]
   rfl)
  have hb2 : seq < 0 ∨ (¬ seq < 0 ∧ count < seq) ∨ (¬ seq < 0 ∧ ¬ count < seq ∧ c9 < (an : Int)) ∨ (¬ seq < 0 ∧ ¬ count < seq ∧ ¬ c9 < (an : Int) ∧ seq < (an : Int)) := by omega
  clear h hb
  rcases hb2 with h1 | ⟨h1, h2⟩ | ⟨h1, h2, h3⟩ | ⟨h1, h2, h3, h4⟩
  all_goals
   go_enter Tryz.func38, Tryz.ntmps38
   go_wp2_with fail
   go_ret
   exact ⟨ret_bool HW.out.symm, bw⟩
 ·obtain ⟨h1, h2, h3, h4⟩ : ¬ seq < 0 ∧ ¬ count < seq ∧ ¬ c9 < (an : Int) ∧ ¬ seq < (an : Int) := by omega
  have HW := hH (show alertsG c9 count last seq al = alertF last 0 (seq - an) al from by
   have : (decide (0 ≤ seq) && decide (seq ≤ count) && decide ((al.length : Int) ≤ min seq c9)) = true := by rw [hn]; simp; omega
   unfold alertsG
   rw [this, hn, Bool.true_and])
  obtain ⟨hc1, hc2⟩ := hc
  obtain ⟨M, hM⟩ : ∃ M, seq - (an : Int) = M := ⟨_, rfl⟩
  have kwn : IntKind.i64.wrap (seq - (an : Int)) = M := by rw [hM, IntKind.wrap_i64]; omega
  have n1 : 0 ≤ M := by omega
  have n2 : M ≤ 1099511627776 := by omega
  rw [hM] at HW
  clear h hb hM
  go_enter Tryz.func38, Tryz.ntmps38
  go_wp2_with fail
  clear h1 h2 h3 h4
  go_loopw [4, 5, 6] (fun lv iv _ wr => ∃ (k : Nat) (lst : Int), iv = .int .i64 (k : Int) ∧ lv = .int .i64 lst ∧ k ≤ an ∧ alertF last 0 M al = alertF last lst (M + k) (al.drop k) ∧ Below w.heap.size w wr ∧ w.heap.size < wr.heap.size ∧ wr.cell? ⟨w.heap.size, 12, none⟩ = some (.int .i64 last) ∧ wr.cell? ⟨w.heap.size, 13, none⟩ = some (.int .i64 seq) ∧ wr.cell? ⟨w.heap.size, 16, none⟩ = some (.slice aa an ac)) (fun _ iv _ _ => an - (intOf iv).toNat)
  case atStart => exact ⟨0, 0, rfl, rfl, Nat.zero_le _, by rw [List.drop_zero]; congr 1; omega, bw, by simp, by and_intros <;> go_simp⟩
  case round =>
   obtain ⟨k, lst, rfl, rfl, hk, hst, hbi, hsz, k12, k13, k16⟩ := hrel
   rename World => wi
   have BI := hH hbi
   by_cases hlt : k < an
   ·obtain ⟨⟨q, i, ⟨p1, q1⟩, ⟨p2, q2⟩⟩, ht⟩ := getElem?_ex (l := al) (k := k) (by have := HL.out; omega)
    obtain ⟨b, o, e, hb, z0, z1, z2, z3, z4, z5⟩ := (HS.out.below (show Below w.heap.size w wi from hbi)).at ht
    subst e
    dsimp only at z0 z1 z2 z3 z4 z5
    have HK := hH (show alertF last 0 M al = alertF last lst (M + k) ((q, i, (p1, q1), (p2, q2)) :: al.drop (k + 1)) from by rw [hst, drop_atS ht])
    have i1 : (0 : Int) ≤ (k : Int) := by omega
    have i2 : (k : Int) < (an : Int) := by omega
    obtain ⟨lz1, lz2, lz3⟩ := lnm (show w.heap.size < wi.heap.size from hsz)
    have HLT := hH hlt
    clear hbi hst ht hlt
    cases hR : alertB (q, i, (p1, q1), (p2, q2)) with
    | false =>
     have HRS := hH (fun W => hR ▸ rrightAlert_any q i p1 q1 p2 q2 W)
     have HNO := hH hR
     clear hR
     go_wp2_with fail
     (with_reducible refine (HRS.out _).mono ?_); rintro e w3 ⟨rfl, b3⟩; have s3 : wi.heap.size + 1 ≤ w3.heap.size := sz b3; have B3 := hH (Bc (B := w.heap.size) (a := w) (bx BI.out) b3); obtain ⟨c3_0, c3_1⟩ := k2 (wi.heap.size) (.int .i64 q) (.int .i64 i) b3 aJ; have c3_2 : w3.cell? ⟨w.heap.size, 12, none⟩ = some (.int .i64 last) := kC b3; have c3_3 : w3.cell? ⟨w.heap.size, 13, none⟩ = some (.int .i64 seq) := kC b3; have c3_4 : w3.cell? ⟨w.heap.size, 16, none⟩ = some (.slice (some ⟨b, o, none⟩) an ac) := kC b3; obtain ⟨l3_0, n3_0, m3_0⟩ := lnm (show wi.heap.size < w3.heap.size by omega); obtain ⟨l3_1, n3_1, m3_1⟩ := lnm (show w.heap.size < w3.heap.size by omega); clear b3
     go_wp2_with fail
     go_ret
     exact ⟨ret_bool (by rw [HW.out, HK.out]; exact (alertF_stop (.inr (.inr (.inr HNO.out)))).symm), bx B3.out⟩
    | true =>
     by_cases h1 : q = M + 1 + k
     ·subst h1
      have HRS := hH (fun W => hR ▸ rrightAlert_any (M + 1 + k) i p1 q1 p2 q2 W)
      by_cases h2 : i ≤ lst
      ·have H2 := hH h2
       clear hR
       go_wp2_with fail
       (with_reducible refine (HRS.out _).mono ?_); rintro e w3 ⟨rfl, b3⟩; have s3 : wi.heap.size + 1 ≤ w3.heap.size := sz b3; have B3 := hH (Bc (B := w.heap.size) (a := w) (bx BI.out) b3); obtain ⟨c3_0, c3_1⟩ := k2 (wi.heap.size) (.int .i64 (M + 1 + k)) (.int .i64 i) b3 aJ; have c3_2 : w3.cell? ⟨w.heap.size, 12, none⟩ = some (.int .i64 last) := kC b3; have c3_3 : w3.cell? ⟨w.heap.size, 13, none⟩ = some (.int .i64 seq) := kC b3; have c3_4 : w3.cell? ⟨w.heap.size, 16, none⟩ = some (.slice (some ⟨b, o, none⟩) an ac) := kC b3; obtain ⟨l3_0, n3_0, m3_0⟩ := lnm (show wi.heap.size < w3.heap.size by omega); obtain ⟨l3_1, n3_1, m3_1⟩ := lnm (show w.heap.size < w3.heap.size by omega); clear b3
       go_wp2_with fail
       go_ret
       exact ⟨ret_bool (by rw [HW.out, HK.out]; exact (alertF_stop (.inr (.inl H2.out))).symm), bx B3.out⟩
      ·by_cases h3 : last < i
       ·have H3 := hH h3
        clear hR
        go_wp2_with fail
        (with_reducible refine (HRS.out _).mono ?_); rintro e w3 ⟨rfl, b3⟩; have s3 : wi.heap.size + 1 ≤ w3.heap.size := sz b3; have B3 := hH (Bc (B := w.heap.size) (a := w) (bx BI.out) b3); obtain ⟨c3_0, c3_1⟩ := k2 (wi.heap.size) (.int .i64 (M + 1 + k)) (.int .i64 i) b3 aJ; have c3_2 : w3.cell? ⟨w.heap.size, 12, none⟩ = some (.int .i64 last) := kC b3; have c3_3 : w3.cell? ⟨w.heap.size, 13, none⟩ = some (.int .i64 seq) := kC b3; have c3_4 : w3.cell? ⟨w.heap.size, 16, none⟩ = some (.slice (some ⟨b, o, none⟩) an ac) := kC b3; obtain ⟨l3_0, n3_0, m3_0⟩ := lnm (show wi.heap.size < w3.heap.size by omega); obtain ⟨l3_1, n3_1, m3_1⟩ := lnm (show w.heap.size < w3.heap.size by omega); clear b3
        go_wp2_with fail
        go_ret
        exact ⟨ret_bool (by rw [HW.out, HK.out]; exact (alertF_stop (.inr (.inr (.inl H3.out)))).symm), bx B3.out⟩
       ·have HGO := hH (alertF_go (top := last) (last := lst) (q := M + k) (A := al.drop (k + 1)) (a := (M + 1 + k, i, (p1, q1), (p2, q2))) (show M + 1 + (k : Int) = M + k + 1 from by omega) h2 h3 hR)
        clear hR
        go_wp2_with fail
        (with_reducible refine (HRS.out _).mono ?_); rintro e w3 ⟨rfl, b3⟩; have s3 : wi.heap.size + 1 ≤ w3.heap.size := sz b3; have B3 := hH (Bc (B := w.heap.size) (a := w) (bx BI.out) b3); obtain ⟨c3_0, c3_1⟩ := k2 (wi.heap.size) (.int .i64 (M + 1 + k)) (.int .i64 i) b3 aJ; have c3_2 : w3.cell? ⟨w.heap.size, 12, none⟩ = some (.int .i64 last) := kC b3; have c3_3 : w3.cell? ⟨w.heap.size, 13, none⟩ = some (.int .i64 seq) := kC b3; have c3_4 : w3.cell? ⟨w.heap.size, 16, none⟩ = some (.slice (some ⟨b, o, none⟩) an ac) := kC b3; obtain ⟨l3_0, n3_0, m3_0⟩ := lnm (show wi.heap.size < w3.heap.size by omega); obtain ⟨l3_1, n3_1, m3_1⟩ := lnm (show w.heap.size < w3.heap.size by omega); clear b3
        go_wp2_with fail
        go_roundw
        case rel => exact ⟨k + 1, i, by go_num, rfl, by have := HLT.out; omega, by rw [HK.out, HGO.out]; congr 1; omega, B3.out, by omega, by and_intros <;> with_reducible assumption⟩
        case measure => have := HLT.out; simp [intOf] <;> omega
     ·have HRS := hH (fun W => hR ▸ rrightAlert_any q i p1 q1 p2 q2 W)
      have j1 : (q != M + 1 + k) = true := by simp [h1]
      have H1 := hH (show q ≠ M + k + 1 from fun e => h1 (by omega))
      clear h1 hR
      go_wp2_with fail
      (with_reducible refine (HRS.out _).mono ?_); rintro e w3 ⟨rfl, b3⟩; have s3 : wi.heap.size + 1 ≤ w3.heap.size := sz b3; have B3 := hH (Bc (B := w.heap.size) (a := w) (bx BI.out) b3); obtain ⟨c3_0, c3_1⟩ := k2 (wi.heap.size) (.int .i64 q) (.int .i64 i) b3 aJ; have c3_2 : w3.cell? ⟨w.heap.size, 12, none⟩ = some (.int .i64 last) := kC b3; have c3_3 : w3.cell? ⟨w.heap.size, 13, none⟩ = some (.int .i64 seq) := kC b3; have c3_4 : w3.cell? ⟨w.heap.size, 16, none⟩ = some (.slice (some ⟨b, o, none⟩) an ac) := kC b3; obtain ⟨l3_0, n3_0, m3_0⟩ := lnm (show wi.heap.size < w3.heap.size by omega); obtain ⟨l3_1, n3_1, m3_1⟩ := lnm (show w.heap.size < w3.heap.size by omega); clear b3
      go_wp2_with fail
      go_ret
      exact ⟨ret_bool (by rw [HW.out, HK.out]; exact (alertF_stop (.inl H1.out)).symm), bx B3.out⟩
   ·obtain rfl : k = an := by omega
    have HE := hH (show alertF last 0 M al = true from by rw [hst, List.drop_eq_nil_of_le (by have := HL.out; omega)]; rfl)
    clear hbi hst hlt
    go_wp2_with fail
    go_ret
    exact ⟨ret_bool (by rw [HW.out, HE.out]), bx BI.out⟩
end Go.Proofs.YtgobbecpnjelmaaGreat
