/-
  StateD: Walk of state.look.alerts.
-/
import Derived.Test.YtgobbecpnjelmaaGreatKStateC
namespace Go.Proofs.YtgobbecpnjelmaaGreat
open Go.RowKit

def alertsG (c9 count last seq : Int) (al : List AlertT) : Bool := decide (0 ≤ seq) && decide (seq ≤ count) && decide ((al.length : Int) ≤ min seq c9) && alertF last 0 (seq - al.length) al

theorem AlertsR.at {w : World} {a : Option Addr} {n c : Nat} {l : List AlertT} (h : AlertsR w (.slice a n c) l) {i : Nat} {t : AlertT} (hi : l[i]? = some t) :
  ∃ b o, a = some ⟨b, o, none⟩ ∧ b < w.heap.size ∧ w.cell? ⟨b, o + i * 6, none⟩ = some (.int .i64 t.1) ∧ w.cell? ⟨b, o + i * 6 + 1, none⟩ = some (.int .i64 t.2.1) ∧ w.cell? ⟨b, o + i * 6 + 2, none⟩ = some (.int .i64 t.2.2.1.1) ∧
   w.cell? ⟨b, o + i * 6 + 3, none⟩ = some (.int .i64 t.2.2.1.2) ∧ w.cell? ⟨b, o + i * 6 + 4, none⟩ = some (.int .i64 t.2.2.2.1) ∧ w.cell? ⟨b, o + i * 6 + 5, none⟩ = some (.int .i64 t.2.2.2.2) := by
 obtain ⟨a', c', e, _, _, _, h⟩ := h
 injection e with e1 e2 e3
 subst e1
 exact h i t hi

set_option maxRecDepth 100000 in
set_option maxHeartbeats 8000000 in
theorem lalerts_any (c0 c1 c2 c3 c4 c5 c6 c7 c8 c9 c10 : Int) (count last seq F : Int) (aa : Option Addr) (an ac : Nat) (fv wv : Value) (al : List AlertT) (w : World) (h : AlertsR w (.slice aa an ac) al) (hn : al.length = an) (hc : 0 ≤ count ∧ count ≤ 1099511627776) :
  Calls Tryz.prog 34 #[.agg #[.int .i64 c0, .int .i64 c1, .int .i64 c2, .int .i64 c3, .int .i64 c4, .int .i64 c5, .int .i64 c6, .int .i64 c7, .int .i64 c8, .int .i64 c9, .int .i64 c10, .int .i64 count, .int .i64 last, .int .i64 seq, wv, fv, .slice aa an ac, .int .i64 F]] w fun e w' => e = .returned (.bool (alertsG c9 count last seq al)) ∧ Below w.heap.size w w' := by
 have hwn : an ≤ 140737488351232 := by obtain ⟨_, _, e, _, _, h3, _⟩ := h; omega
 have HS := hH h
 have HL := hH hn
 obtain ⟨M, hM⟩ : ∃ M, min seq c9 = M := ⟨_, rfl⟩
 by_cases hb : seq < 0 ∨ count < seq ∨ M < (an : Int)
 ·have HW := hH (show alertsG c9 count last seq al = false from by
   have : (decide (0 ≤ seq) && decide (seq ≤ count) && decide ((al.length : Int) ≤ min seq c9)) = false := by rw [hM, hn]; simp; omega
   unfold alertsG
   rw [this]
   rfl)
  have hb2 : seq < 0 ∨ (¬ seq < 0 ∧ count < seq) ∨ (¬ seq < 0 ∧ ¬ count < seq ∧ M < (an : Int)) := by omega
  clear h hb
  rcases hb2 with h1 | ⟨h1, h2⟩ | ⟨h1, h2, h3⟩
  all_goals
   go_enter Tryz.func34, Tryz.ntmps34
   go_wp2_with fail
   go_ret
   exact ⟨ret_bool HW.out.symm, bw⟩
 ·obtain ⟨h1, h2, h3⟩ : ¬ seq < 0 ∧ ¬ count < seq ∧ ¬ M < (an : Int) := by omega
  have HW := hH (show alertsG c9 count last seq al = alertF last 0 (seq - an) al from by
   have : (decide (0 ≤ seq) && decide (seq ≤ count) && decide ((al.length : Int) ≤ min seq c9)) = true := by rw [hM, hn]; simp; omega
   unfold alertsG
   rw [this, hn, Bool.true_and])
  obtain ⟨hc1, hc2⟩ := hc
  have kwn : IntKind.i64.wrap (seq - (an : Int)) = seq - (an : Int) := by rw [IntKind.wrap_i64]; omega
  clear h hb
  go_enter Tryz.func34, Tryz.ntmps34
  go_wp2_with fail
  refine wp_region_held_drew (S := fun w' => w'.cell? ⟨w.heap.size, 13, none⟩ = some (.int .i64 seq) ∧ w'.cell? ⟨w.heap.size, 16, none⟩ = some (.slice aa an ac)) rJ kJ (fun hHeld => ?_); refine lJ 0 hHeld ?_; refine lJ 1 hHeld ?_; refine lJ 2 hHeld ?_; refine lJ 3 hHeld ?_; refine lJ 4 hHeld ?_; refine lJ 5 hHeld ?_; refine lJ 6 hHeld ?_; refine lJ 7 hHeld ?_; refine lJ 8 hHeld ?_; refine lJ 9 hHeld ?_; refine wpAnyH_done rJ ?_ _
  go_wp2_with fail
  go_loopw [3, 4, 6, 47] (fun lv nv _ iv wr => ∃ (k : Nat) (lst N : Int), iv = .int .i64 (k : Int) ∧ lv = .int .i64 lst ∧ nv = .int .i64 N ∧ N = seq - an + k ∧ k ≤ an ∧ alertF last 0 (seq - an) al = alertF last lst N (al.drop k) ∧ Below w.heap.size w wr ∧ w.heap.size < wr.heap.size ∧ wr.cell? ⟨w.heap.size, 12, none⟩ = some (.int .i64 last)) (fun _ _ _ iv _ => an - (intOf iv).toNat)
  case atStart => exact ⟨0, 0, seq - an, rfl, rfl, by first | rfl | go_num, by omega, Nat.zero_le _, rfl, bw, by simp, by go_simp⟩
  case round =>
   obtain ⟨k, lst, N, rfl, rfl, rfl, hN, hk, hst, hbi, hsz, k12⟩ := hrel
   rename World => wi
   have BI := hH hbi
   have HNN := hH hN
   have n1 : -140737488351232 ≤ N := by omega
   have n2 : N ≤ 1099511627776 + 140737488351232 := by omega
   by_cases hlt : k < an
   ·obtain ⟨⟨q, i, ⟨p1, q1⟩, ⟨p2, q2⟩⟩, ht⟩ := getElem?_ex (l := al) (k := k) (by omega)
    obtain ⟨b, o, e, hb, z0, z1, z2, z3, z4, z5⟩ := (HS.out.below (show Below w.heap.size w wi from hbi)).at ht
    subst e
    dsimp only at z0 z1 z2 z3 z4 z5
    have HK := hH (show alertF last 0 (seq - an) al = alertF last lst N ((q, i, (p1, q1), (p2, q2)) :: al.drop (k + 1)) from by rw [hst, drop_atS ht])
    have i1 : (0 : Int) ≤ (k : Int) := by omega
    have i2 : (k : Int) < (an : Int) := by omega
    obtain ⟨lz1, lz2, lz3⟩ := lnm (show w.heap.size < wi.heap.size from hsz)
    have HLT := hH hlt
    clear hbi hst ht hN hlt
    by_cases h1 : q = N + 1
    ·subst h1
     by_cases h2 : i ≤ lst
     ·have H2 := hH h2
      go_wp2_with fail
      go_ret
      exact ⟨ret_bool (by rw [HW.out, HK.out]; exact (alertF_stop (.inr (.inl H2.out))).symm), bx BI.out⟩
     ·by_cases h3 : last < i
      ·have H3 := hH h3
       go_wp2_with fail
       go_ret
       exact ⟨ret_bool (by rw [HW.out, HK.out]; exact (alertF_stop (.inr (.inr (.inl H3.out)))).symm), bx BI.out⟩
      ·cases hR : alertB (N + 1, i, (p1, q1), (p2, q2)) with
       | false =>
        have HRS := hH (fun W => hR ▸ rightAlert_any (N + 1) i p1 q1 p2 q2 W)
        have HNO := hH hR
        clear hR
        go_wp2_with fail
        (with_reducible refine (HRS.out _).mono ?_); rintro e w3 ⟨rfl, b3⟩; have s3 : wi.heap.size + 1 ≤ w3.heap.size := sz b3; have B3 := hH (Bc (B := w.heap.size) (a := w) (bx BI.out) b3); clear b3
        go_wp2_with fail
        go_ret
        exact ⟨ret_bool (by rw [HW.out, HK.out]; exact (alertF_stop (.inr (.inr (.inr HNO.out)))).symm), bx B3.out⟩
       | true =>
        have HRS := hH (fun W => hR ▸ rightAlert_any (N + 1) i p1 q1 p2 q2 W)
        have HGO := hH (alertF_go (top := last) (last := lst) (q := N) (A := al.drop (k + 1)) (a := (N + 1, i, (p1, q1), (p2, q2))) rfl h2 h3 hR)
        clear hR
        go_wp2_with fail
        (with_reducible refine (HRS.out _).mono ?_); rintro e w3 ⟨rfl, b3⟩; have s3 : wi.heap.size + 1 ≤ w3.heap.size := sz b3; have B3 := hH (Bc (B := w.heap.size) (a := w) (bx BI.out) b3); have c3_0 : w3.cell? ⟨w.heap.size, 12, none⟩ = some (.int .i64 last) := kC b3; have c3_1 : w3.cell? ⟨wi.heap.size, 1, none⟩ = some (.int .i64 i) := kC b3; obtain ⟨l3_0, n3_0, m3_0⟩ := lnm (show w.heap.size < w3.heap.size by omega); obtain ⟨l3_1, n3_1, m3_1⟩ := lnm (show wi.heap.size < w3.heap.size by omega); clear b3
        go_wp2_with fail
        go_roundw
        case rel => exact ⟨k + 1, i, N + 1, by go_num, rfl, by go_num, by have := HNN.out; omega, by have := HLT.out; omega, by rw [HK.out, HGO.out], B3.out, by omega, by and_intros <;> with_reducible assumption⟩
        case measure => have := HLT.out; simp [intOf] <;> omega
    ·have j1 : (q != N + 1) = true := by simp [h1]
     have H1 := hH h1
     clear h1
     go_wp2_with fail
     go_ret
     exact ⟨ret_bool (by rw [HW.out, HK.out]; exact (alertF_stop (.inl H1.out)).symm), bx BI.out⟩
   ·obtain rfl : k = an := by omega
    have HE := hH (show alertF last 0 (seq - k) al = true from by rw [hst, List.drop_eq_nil_of_le (by have := HL.out; omega)]; rfl)
    clear hbi hst hN hlt
    go_wp2_with fail
    go_ret
    exact ⟨ret_bool (by rw [HW.out, HE.out]), bx BI.out⟩
end Go.Proofs.YtgobbecpnjelmaaGreat
