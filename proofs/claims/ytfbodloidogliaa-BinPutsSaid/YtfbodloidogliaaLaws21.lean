/-
  Walk of BinReads.
-/
import Derived.Test.YtfbodloidogliaaBinU
import Derived.Test.YtfbodloidogliaaArgRows
import Derived.BigQuiet
namespace Go.Proofs.Ytfbodloidogliaa
open Go.RowKit

theorem argsB {w : World} {v : Value} {l : List Int} (h : ArgInts .u8 w v l) : AllB l := by
  obtain ⟨_, _, _, _, _, _, h⟩ := h
  intro x hx
  have := h x hx
  simp [Lit.wf, IntKind.min, IntKind.max, IntKind.signed, IntKind.bits] at this
  omega

theorem RdTo.from' {w w1 w2 : World} {R : Nat} {v : Value} {l : List Int} {a : Nat} {e : Int} (hb : Below w.heap.size w w1) (h : RdTo w1 R v l w2 a e) : RdTo w R v l w2 a e := RdTo.from hb h

theorem quiet_same {P : Program} {f : FuncId} {args : Array Value} {w : World} {v : Value}
    (h : Calls P f args w fun e w' => e = .returned v ∧ w = w') : Calls P f args w fun e w'' => e = .returned v ∧ ∃ m, w'' = w.drewN m :=
  h.mono fun _ _ ⟨he, hm⟩ => ⟨he, 0, hm.symm⟩
theorem quiet_add {P : Program} {f : FuncId} {args : Array Value} {w : World} {a n : Nat} {v : Value}
    (h : Calls P f args (w.drewN (a + n)) fun e w' => e = .returned v ∧ ∃ m, w' = (w.drewN (a + n)).drewN m) :
    Calls P f args (w.drewN (a + n)) fun e w'' => e = .returned v ∧ ∃ m, w'' = w.drewN (a + m) :=
  h.mono fun _ _ ⟨he, m, hm⟩ => ⟨he, n + m, by rw [hm, World.drewN_drewN, Nat.add_assoc]⟩

theorem rdIs_le (l : List Int) (hb : AllB l) (a0 : Nat) (h0 : a0 ≤ l.length) : ∀ (n a : Nat) (acc : List Int), a ≤ l.length → (rdIs l a0 n a acc).2.1 ≤ l.length := by
  intro n
  induction n with
  | zero => intro a acc h; exact h
  | succ n ih =>
    intro a acc h
    rw [rdIs]
    by_cases he : (rdI l a).2.2 ≠ 0
    · rw [if_pos he]; exact h0
    · rw [if_neg he]; exact ih _ _ ((rdI_facts l hb a).2 (by omega)).2

theorem askR_le (l : List Int) (hb : AllB l) (a : Nat) (ha : a ≤ l.length) (e d most : Int) : (askR l a e d most).1 ≤ l.length := by
  have hU : (rdU' l a e).2.1 ≤ l.length := by
    unfold rdU'
    by_cases he : e = 0
    · rw [if_pos he]
      by_cases h2 : (rdU l a).2.2 = 0
      · exact (rdU_ok l hb a h2).2.1
      · rw [(rdU_bad l a h2).2]; exact ha
    · rw [if_neg he]; exact ha
  have hN : (rdN' l a e most).2.1 ≤ l.length := by
    have hf := rdN'_facts l hb a e most
    by_cases h2 : (rdN' l a e most).2.2 = 0
    · exact (hf.2 h2).2.1
    · rw [(hf.1 h2).2]; exact ha
  unfold askR
  repeat' split
  · exact hU
  · exact hN
  · rw [rdI'_of]; exact hU
  · rw [rdText'_of]
    repeat' split
    · exact ha
    · exact ha
    · simp only; omega
  · rw [rdInts'_of]
    split
    · exact ha
    · exact rdIs_le l hb a ha _ _ _ hN
  · exact ha
  · exact ha

set_option maxRecDepth 100000 in
set_option maxHeartbeats 4000000 in
theorem binReads_walk {w : World} (v : Value) (l : List Int) (h : ArgInts .u8 w v l) (v2 : Value) (q : List (List Int)) (hq : ArgRows 2 w v2 q) :
    Calls Try.prog 13 #[v, v2] w fun e w' => e = .returned (.bool true) ∧ Below w.heap.size w w' := by
  have hb := argsB h
  by_cases hbig : (600 : Int) < l.length ∨ (60 : Int) < q.length
  · obtain ⟨ad, c, rfl, _⟩ := h
    obtain ⟨ad2, c2, rfl, _⟩ := hq
    have hl : (600 : Int) < l.length ∨ (¬ (600 : Int) < l.length ∧ (60 : Int) < q.length) := by omega
    clear hbig
    rcases hl with hl | ⟨hl, hl2⟩
    all_goals
      go_enter Try.func13, Try.ntmps13
      go_wp2_with fail
      refine (lives21_any w).mono ?_
      rintro e w1 ⟨rfl, b1⟩
      have B1 := Lib.hid b1
      clear b1
      go_wp2
      go_ret
      exact ⟨rfl, B1.out⟩
  · obtain ⟨hl, hl2⟩ : ¬ (600 : Int) < l.length ∧ ¬ (60 : Int) < q.length := by omega
    have hi := h.ints (by omega)
    obtain ⟨ad2, c2, rfl, p1, p2, hQ⟩ := hq
    have HQ := Lib.hid hQ
    have HI := Lib.hid hi
    obtain ⟨ad, c, rfl⟩ := hi.shape
    clear hbig h hQ hi
    go_enter Try.func13, Try.ntmps13
    go_wp2_with fail
    refine (from_any _ l w HI.out (by omega)).mono ?_
    rintro e w1 ⟨R, vr, rfl, hR, r1, b1⟩
    have R1 := Lib.hid r1; have B1 := Lib.hid b1
    have hRlt := r1.lt
    clear r1 b1
    go_wp2_with fail
    go_loopw [7, 8, 9] (fun i _ _ wr => ∃ (k a : Nat) (e : Int), i = .int .i64 k ∧ k ≤ q.length ∧ a ≤ l.length ∧ RdTo w1 R vr l wr a e ∧ wr.cell? ⟨w1.heap.size, 0, none⟩ = some (.slice ad l.length c) ∧ wr.cell? ⟨w1.heap.size, 1, none⟩ = some (.int .i64 a) ∧ wr.cell? ⟨w1.heap.size, 2, none⟩ = some (.int .i64 e) ∧ wr.frozen? ⟨w1.heap.size, 0, none⟩ = false ∧ wr.frozen? ⟨w1.heap.size, 1, none⟩ = false ∧ wr.frozen? ⟨w1.heap.size, 2, none⟩ = false ∧ w1.heap.size < wr.heap.size) (fun i _ _ _ => q.length - (intOf i).toNat)
    case atStart => exact ⟨0, 0, 0, rfl, Nat.zero_le _, Nat.zero_le _, ⟨R1.out.below (by (repeat (first | with_reducible exact Below.refl _ _ | ((with_reducible refine Below.setCell ?_ ?_ _); rotate_left; (focus (first | omega | (simp; done) | (simp; omega)))) | ((with_reducible refine Below.alloc ?_ ?_ _); rotate_left; (focus (first | omega | (simp; done) | (simp; omega)))) | (with_reducible refine Below.drew ?_) | (with_reducible refine below_drewN ?_ _)))), only_below (by (repeat (first | with_reducible exact Below.refl _ _ | ((with_reducible refine Below.setCell ?_ ?_ _); rotate_left; (focus (first | omega | (simp; done) | (simp; omega)))) | ((with_reducible refine Below.alloc ?_ ?_ _); rotate_left; (focus (first | omega | (simp; done) | (simp; omega)))) | (with_reducible refine Below.drew ?_) | (with_reducible refine below_drewN ?_ _))))⟩, by go_simp, by go_simp, by go_simp, by go_simp, by go_simp, by go_simp, by simp⟩
    case round =>
      obtain ⟨k, a, e0, rfl, hk, ha, hr, d0, d1, d2, g0, g1, g2, hsz⟩ := hrel
      have HRT := Lib.hid hr; have HRd := Lib.hid hr.1; have HB := Lib.hid (below_only B1.out hr.2 (Nat.le_refl _) hR)
      clear hr
      by_cases hlt : k < q.length
      · have hlt' : (k : Int) < q.length := by omega
        obtain ⟨row, hrow⟩ := getElem?_ex hlt
        obtain ⟨hrl, b2, o2, rfl, hb2, hc2⟩ := HQ.out k row hrow
        obtain ⟨dd, hd⟩ := getElem?_ex (l := row) (k := 0) (by omega)
        obtain ⟨mm, hm⟩ := getElem?_ex (l := row) (k := 1) (by omega)
        obtain ⟨x0, hx0⟩ := hc2 0 dd hd
        obtain ⟨x1, hx1⟩ := hc2 1 mm hm
        have hb2r : b2 < wr.heap.size := by have := HB.out.size; omega
        have y0 : wr.cell? ⟨b2, o2 + k * 2, none⟩ = some (.int .i64 dd) := (HB.out.cell (p := ⟨b2, o2 + (k * 2 + 0), none⟩) hb2).trans x0
        have y1 : wr.cell? ⟨b2, o2 + k * 2 + 1, none⟩ = some (.int .i64 mm) := (HB.out.cell (p := ⟨b2, o2 + (k * 2 + 1), none⟩) hb2).trans x1
        have hA := fun W (hW : Rd W R vr l a e0) hI => ask_any (v0 := .slice ad l.length c) hW hI hb ha (by omega) dd mm hx1
        have hle := askR_le l hb a ha e0 dd mm
        generalize askR l a e0 dd mm = r at *
        obtain ⟨a', e'⟩ := r
        simp only at hA hle
        have HA := Lib.hid hA
        clear hA hrow hd hm hc2 x0 x1
        have hRw := Nat.le_trans (Nat.le_refl _) hR
        have hneq : R ≠ w1.heap.size := by omega
        have hneR : R ≠ b2 := by omega
        have hneX : w1.heap.size ≠ wr.heap.size := by omega
        have hneY : wr.heap.size ≠ w1.heap.size := by omega
        go_wp2_with fail
        go_region_held3 (fun w' => w'.cell? ⟨w1.heap.size, 0, none⟩ = some (.slice ad l.length c) ∧ w'.cell? ⟨w1.heap.size, 1, none⟩ = some (.int .i64 a) ∧ w'.cell? ⟨w1.heap.size, 2, none⟩ = some (.int .i64 e0) ∧ w'.cell? ⟨b2, o2 + k * 2, none⟩ = some (.int .i64 dd) ∧ w'.cell? ⟨b2, o2 + k * 2 + 1, none⟩ = some (.int .i64 mm)) (first | (go_simp; done) | (go_keep; done) | (refine ⟨?_, ?_, ?_, ?_, ?_⟩ <;> first | (go_simp; done) | (go_keep; done))) (first | (go_at_call 73; refine (HA.out _ (HRd.out.below (by (repeat (first | with_reducible exact Below.refl _ _ | ((with_reducible refine Below.setCell ?_ ?_ _); rotate_left; (focus (first | omega | (simp; done) | (simp; omega)))) | ((with_reducible refine Below.alloc ?_ ?_ _); rotate_left; (focus (first | omega | (simp; done) | (simp; omega)))) | (with_reducible refine Below.drew ?_) | (with_reducible refine below_drewN ?_ _))))) ((HI.out.below HB.out).below (by (repeat (first | with_reducible exact Below.refl _ _ | ((with_reducible refine Below.setCell ?_ ?_ _); rotate_left; (focus (first | omega | (simp; done) | (simp; omega)))) | ((with_reducible refine Below.alloc ?_ ?_ _); rotate_left; (focus (first | omega | (simp; done) | (simp; omega)))) | (with_reducible refine Below.drew ?_) | (with_reducible refine below_drewN ?_ _)))))).mono ?_; rintro e w2 ⟨rfl, hr2⟩; have hg2 := hr2.2; have k0 := only_cell hg2 w1.heap.size 0 (by simp; omega) (by omega); have k1 := only_cell hg2 w1.heap.size 1 (by simp; omega) (by omega); have k2 := only_cell hg2 w1.heap.size 2 (by simp; omega) (by omega); have k3 := only_cell hg2 b2 (o2 + k * 2) (by simp; omega) (by omega); have k4 := only_cell hg2 b2 (o2 + k * 2 + 1) (by simp; omega) (by omega); have q0 := only_frozen hg2 w1.heap.size 0 (by simp; omega) (by omega); have q1 := only_frozen hg2 w1.heap.size 1 (by simp; omega) (by omega); have q2 := only_frozen hg2 w1.heap.size 2 (by simp; omega) (by omega); have hz2 : wr.heap.size ≤ w2.heap.size := (by have := hg2.size; simp at this; omega); (try (have k5 := only_cell hg2 wr.heap.size 0 (by simp) (by omega); have k6 := only_cell hg2 wr.heap.size 1 (by simp) (by omega); have k7 := only_cell hg2 wr.heap.size 2 (by simp) (by omega); have q5 := only_frozen hg2 wr.heap.size 0 (by simp) (by omega); have q6 := only_frozen hg2 wr.heap.size 1 (by simp) (by omega); have q7 := only_frozen hg2 wr.heap.size 2 (by simp) (by omega); have hz3 : wr.heap.size < w2.heap.size := (by have := hg2.size; simp at this; omega))); have hz8 : w1.heap.size < w2.heap.size := (by omega); have hy8 : w1.heap.size ≠ w2.heap.size := (by omega); have hx8 : w2.heap.size ≠ w1.heap.size := (by omega); have HR2 := Lib.hid (RdTo.trans HRT.out (RdTo.from' (w := wr) (by (repeat (first | with_reducible exact Below.refl _ _ | ((with_reducible refine Below.setCell ?_ ?_ _); rotate_left; (focus (first | omega | (simp; done) | (simp; omega)))) | ((with_reducible refine Below.alloc ?_ ?_ _); rotate_left; (focus (first | omega | (simp; done) | (simp; omega)))) | (with_reducible refine Below.drew ?_) | (with_reducible refine below_drewN ?_ _)))) hr2)); clear hr2 hg2))
        all_goals
          have hq0 : ((a' : Int) != a') = false := by simp
          have hq1 : (((l.length : Int) - a') != ((l.length : Int) - a')) = false := by simp
          have hq2 : (e' != e') = false := by simp
          go_wp2
          go_quiet ((first | (go_at_call 74; exact quiet_left (at_any (RdTo.belowB R1.out HR2.out (by (repeat (first | with_reducible exact Below.refl _ _ | ((with_reducible refine Below.setCell ?_ ?_ _); rotate_left; (focus (first | omega | (simp; done) | (simp; omega)))) | ((with_reducible refine Below.alloc ?_ ?_ _); rotate_left; (focus (first | omega | (simp; done) | (simp; omega)))) | (with_reducible refine Below.drew ?_) | (with_reducible refine below_drewN ?_ _))))).1)) | (go_at_call 71; exact quiet_left (err_any (RdTo.belowB R1.out HR2.out (by (repeat (first | with_reducible exact Below.refl _ _ | ((with_reducible refine Below.setCell ?_ ?_ _); rotate_left; (focus (first | omega | (simp; done) | (simp; omega)))) | ((with_reducible refine Below.alloc ?_ ?_ _); rotate_left; (focus (first | omega | (simp; done) | (simp; omega)))) | (with_reducible refine Below.drew ?_) | (with_reducible refine below_drewN ?_ _))))).1)) | (go_at_call 72; exact Calls.quiet_of (bleft_any (RdTo.belowB R1.out HR2.out (by (repeat (first | with_reducible exact Below.refl _ _ | ((with_reducible refine Below.setCell ?_ ?_ _); rotate_left; (focus (first | omega | (simp; done) | (simp; omega)))) | ((with_reducible refine Below.alloc ?_ ?_ _); rotate_left; (focus (first | omega | (simp; done) | (simp; omega)))) | (with_reducible refine Below.drew ?_) | (with_reducible refine below_drewN ?_ _))))).1 hle (by omega)))))
          go_wp2
          go_roundw
          case rel => exact ⟨k + 1, a', e', by go_num, by omega, hle, RdTo.belowB R1.out HR2.out (by (repeat (first | with_reducible exact Below.refl _ _ | ((with_reducible refine Below.setCell ?_ ?_ _); rotate_left; (focus (first | omega | (simp; done) | (simp; omega)))) | ((with_reducible refine Below.alloc ?_ ?_ _); rotate_left; (focus (first | omega | (simp; done) | (simp; omega)))) | (with_reducible refine Below.drew ?_) | (with_reducible refine below_drewN ?_ _)))), by go_simp, by go_simp, by go_simp, by go_simp, by go_simp, by go_simp, by simp; omega⟩
          case measure => simp [intOf] <;> omega
      · obtain rfl : k = q.length := by omega
        go_wp2_with fail
        refine (lives21_any wr).mono ?_
        rintro e w2 ⟨rfl, b2⟩
        have B2 := Lib.hid (HB.out.trans (b2.mono HB.out.size))
        clear b2
        go_wp2
        go_ret
        exact ⟨rfl, B2.out⟩
end Go.Proofs.Ytfbodloidogliaa
