/-
  Walks of the reader of bytes (layer 21): its block, and its small methods.
-/
import Derived.Test.YtfbodloidogliaaBinI
import Derived.Defers
import Derived.Deep.QuietTactic
namespace Go.Proofs.Ytfbodloidogliaa
open Go.RowKit

/-- Block R is a reader of the bytes l (slice v), at place a, with error e. -/
def Rd (w : World) (R : Nat) (v : Value) (l : List Int) (a : Nat) (e : Int) : Prop :=
  w.heap[R]? = some (.cells #[v, .int .i64 a, .int .i64 e] 108 (0, 0)) ∧ Ints .u8 w v l

theorem Rd.cells {w : World} {R : Nat} {v : Value} {l : List Int} {a : Nat} {e : Int} (h : Rd w R v l a e) :
    w.cell? ⟨R, 0, none⟩ = some v ∧ w.cell? ⟨R, 1, none⟩ = some (.int .i64 a) ∧ w.cell? ⟨R, 2, none⟩ = some (.int .i64 e) ∧ w.frozen? ⟨R, 1, none⟩ = false ∧ w.frozen? ⟨R, 2, none⟩ = false := by
  have h1 := h.1
  refine ⟨?_, ?_, ?_, ?_, ?_⟩ <;> simp [World.cell?, World.frozen?, h1]

theorem Rd.lt {w : World} {R : Nat} {v : Value} {l : List Int} {a : Nat} {e : Int} (h : Rd w R v l a e) : R < w.heap.size := by
  rcases Nat.lt_or_ge R w.heap.size with hlt | hge
  · exact hlt
  · have h1 := h.1
    rw [Array.getElem?_eq_none hge] at h1; cases h1

/-- Bytes never lie in a reader's block. -/
theorem Ints.far_rd {w : World} {R b o : Nat} {v : Value} {l : List Int} {a : Nat} {e x : Int} (h : Rd w R v l a e) (hc : w.cell? ⟨b, o, none⟩ = some (.int .u8 x)) : b ≠ R := by
  rintro rfl
  have h1 := h.1
  obtain ⟨ad, c, rfl⟩ := h.2.shape
  simp [World.cell?, h1] at hc
  rcases o with _ | _ | _ | o <;> simp at hc

theorem Ints.only_rd {w w' : World} {R : Nat} {v v0 : Value} {l l0 : List Int} {a : Nat} {e : Int} (h : Rd w R v l a e) (hi : Ints .u8 w v0 l0) (hg : w.grownBy w' (some R)) : Ints .u8 w' v0 l0 := by
  obtain ⟨ad, c, rfl, h1, h2, h3, h4⟩ := hi
  refine ⟨ad, c, rfl, h1, h2, h3, fun i x hx => ?_⟩
  obtain ⟨b, o, rfl, hlt, hc⟩ := h4 i x hx
  have hne := Ints.far_rd h hc
  refine ⟨b, o, rfl, Nat.lt_of_lt_of_le hlt hg.size, ?_⟩
  exact (World.cell?_of_block (w := w) (a := ⟨b, o + i, none⟩) (hg.block b hlt (by simpa using hne))).trans hc

theorem Rd.below {w w' : World} {R : Nat} {v : Value} {l : List Int} {a : Nat} {e : Int} (h : Rd w R v l a e) (hb : Below w.heap.size w w') : Rd w' R v l a e :=
  ⟨(hb.block R h.lt).trans h.1, h.2.below hb⟩
theorem Rd.drewN {w : World} {R : Nat} {v : Value} {l : List Int} {a : Nat} {e : Int} (h : Rd w R v l a e) (n : Nat) : Rd (w.drewN n) R v l a e := h.below (below_drewN (Below.refl _ _) n)

theorem Rd.other {w w' : World} {R R' : Nat} {v v' : Value} {l l' : List Int} {a a' : Nat} {e e' : Int} (h : Rd w R v l a e) (h' : Rd w R' v' l' a' e') (hne : R ≠ R') (hg : w.grownBy w' (some R')) : Rd w' R v l a e :=
  ⟨(hg.block R h.lt (by simpa using hne)).trans h.1, Ints.only_rd h' h.2 hg⟩

theorem only_set (w : World) (R i : Nat) (u : Value) : w.grownBy (w.setCell ⟨R, i, none⟩ u) (some R) :=
  ⟨rfl, rfl, rfl, by simp [World.setCell], fun k _ hne => Below.heap_setCell w ⟨R, i, none⟩ u k (fun e => hne (by rw [e]))⟩
theorem only_drewN {a w : World} {row : Option Nat} (h : a.grownBy w row) (n : Nat) : a.grownBy (w.drewN n) row := ⟨h.os, h.tape, h.output, h.size, h.block⟩
theorem only_trans {a b c : World} {R : Nat} (h : a.grownBy b (some R)) (k : b.grownBy c (some R)) : a.grownBy c (some R) :=
  ⟨k.os.trans h.os, k.tape.trans h.tape, k.output.trans h.output, Nat.le_trans h.size k.size, fun i hi hne => (k.block i (Nat.lt_of_lt_of_le hi h.size) hne).trans (h.block i hi hne)⟩
theorem only_below {a w : World} {R : Nat} (h : Below a.heap.size a w) : a.grownBy w (some R) := ⟨h.os, h.tape, h.output, h.size, fun i hi _ => h.block i hi⟩
theorem only_refl (w : World) (R : Nat) : w.grownBy w (some R) := ⟨rfl, rfl, rfl, Nat.le_refl _, fun _ _ _ => rfl⟩
/-- What touches only a block of the call's own leaves all below as it was. -/
theorem below_only {B R : Nat} {w0 a w : World} (h0 : Below B w0 a) (h : a.grownBy w (some R)) (hB : B ≤ w0.heap.size) (hR : B ≤ R) : Below B w0 w :=
  ⟨h.os.trans h0.os, h.tape.trans h0.tape, h.output.trans h0.output, Nat.le_trans h0.size h.size, fun i hi => (h.block i (Nat.lt_of_lt_of_le hi (Nat.le_trans hB h0.size)) (by simp; omega)).trans (h0.block i hi)⟩

theorem Rd.set1 {w : World} {R : Nat} {v : Value} {l : List Int} {a : Nat} {e : Int} (h : Rd w R v l a e) (a' : Nat) : Rd (w.setCell ⟨R, 1, none⟩ (.int .i64 a')) R v l a' e := by
  refine ⟨?_, Ints.only_rd h h.2 (only_set w R 1 _)⟩
  have h1 := h.1
  simp [World.setCell, Array.getElem?_modify, h1]
theorem Rd.set2 {w : World} {R : Nat} {v : Value} {l : List Int} {a : Nat} {e : Int} (h : Rd w R v l a e) (e' : Int) : Rd (w.setCell ⟨R, 2, none⟩ (.int .i64 e')) R v l a e' := by
  refine ⟨?_, Ints.only_rd h h.2 (only_set w R 2 _)⟩
  have h1 := h.1
  simp [World.setCell, Array.getElem?_modify, h1]

theorem Rd.set1' {w : World} {R : Nat} {v : Value} {l : List Int} {a : Nat} {e : Int} (h : Rd w R v l a e) (a' : Nat) (z : Int) (hz : z = (a' : Int)) : Rd (w.setCell ⟨R, 1, none⟩ (.int .i64 z)) R v l a' e := by subst hz; exact h.set1 a'

theorem ints_nil (k : IntKind) (w : World) (a : Option Addr) (c : Nat) (hc : c ≤ 9223372036854775807) : Ints k w (.slice a 0 c) [] := ⟨a, c, rfl, by simp, hc, by simp, fun i x h => by simp at h⟩

theorem Ints.len {k : IntKind} {w : World} {a : Option Addr} {n n' c : Nat} {l : List Int} (h : Ints k w (.slice a n c) l) (e : n = n') : Ints k w (.slice a n' c) l := by subst e; exact h

/-- What a method does to its reader's block. -/
def RdTo (w : World) (R : Nat) (v : Value) (l : List Int) (w' : World) (a : Nat) (e : Int) : Prop := Rd w' R v l a e ∧ w.grownBy w' (some R)

theorem dead_no {w : World} {R : Nat} {v : Value} {l : List Int} {a : Nat} (h : Rd w R v l a 0) : Calls Try.prog 92 #[.pointer (some ⟨R, 0, none⟩)] w fun e w' => e = .returned (.bool false) ∧ w = w' := by
  obtain ⟨c0, c1, c2, f1, f2⟩ := h.cells
  clear h
  go_enter Try.func92, Try.ntmps92
  go_wp2
  go_ret
  exact ⟨rfl, rfl⟩

theorem dead_yes {w : World} {R : Nat} {v : Value} {l : List Int} {a : Nat} {e0 : Int} (h : Rd w R v l a e0) (he : e0 ≠ 0) : Calls Try.prog 92 #[.pointer (some ⟨R, 0, none⟩)] w fun e w' => e = .returned (.bool true) ∧ w = w' := by
  obtain ⟨c0, c1, c2, f1, f2⟩ := h.cells
  have hne : (e0 != 0) = true := by simpa using he
  clear h he
  go_enter Try.func92, Try.ntmps92
  go_wp2
  go_ret
  exact ⟨rfl, rfl⟩

theorem dead_nil (w : World) : Calls Try.prog 92 #[.pointer none] w fun e w' => e = .returned (.bool true) ∧ w = w' := by
  go_enter Try.func92, Try.ntmps92
  go_wp2
  go_ret
  exact ⟨rfl, rfl⟩

theorem back_rd {w : World} {R : Nat} {v : Value} {l : List Int} {a : Nat} {e0 : Int} (u : FrameMode) (a0 : Nat) (h : Rd w R v l a e0) :
    CallsD Try.prog 93 #[.pointer (some ⟨R, 0, none⟩), .int .i64 a0] u w fun e u' w' => u' = u ∧ (e = .returned (.tuple #[]) ∧ RdTo w R v l w' (if e0 = 0 then a else a0) e0) := by
  obtain ⟨c0, c1, c2, f1, f2⟩ := h.cells
  have H := Lib.hid h
  clear h
  by_cases he : e0 = 0
  · subst he
    have hf : Hid ((if (0 : Int) = 0 then a else a0) = a) := by simp [Hid]
    rw [hf.out]
    clear hf
    go_enter_d Try.func93, Try.ntmps93
    go_wp2
    go_end0
    exact ⟨rfl, H.out, only_refl _ _⟩
  · rw [if_neg he]
    have hne : (e0 != 0) = true := by simpa using he
    go_enter_d Try.func93, Try.ntmps93
    go_wp2
    go_end0
    exact ⟨rfl, H.out.set1 a0, only_set _ _ _ _⟩

set_option maxHeartbeats 800000 in
theorem take_short {w : World} {R : Nat} {v : Value} {l : List Int} {a : Nat} (h : Rd w R v l a 0) (ha : a ≤ l.length) (hl : l.length ≤ 100000) (n : Int) (hn : (l.length : Int) < a + n) :
    Calls Try.prog 94 #[.pointer (some ⟨R, 0, none⟩), .int .i64 n] w fun e w' => e = .returned (.slice none 0 0) ∧ RdTo w R v l w' a 210 := by
  have H := Lib.hid h
  obtain ⟨c0, c1, c2, f1, f2⟩ := h.cells
  obtain ⟨ad, c, rfl⟩ := h.2.shape
  clear h
  have hlt : (l.length : Int) - a < n := by omega
  go_enter Try.func94, Try.ntmps94
  go_wp2
  go_quiet (fail)
  go_wp2
  go_ret
  exact ⟨rfl, (H.out.drewN _).set2 210, only_trans (only_drewN (only_refl _ _) _) (only_set _ _ _ _)⟩

set_option maxHeartbeats 800000 in
theorem take_yes {w : World} {R : Nat} {v : Value} {l : List Int} {a n : Nat} (h : Rd w R v l a 0) (hl : l.length ≤ 100000) (hn : a + n ≤ l.length) :
    Calls Try.prog 94 #[.pointer (some ⟨R, 0, none⟩), .int .i64 n] w fun e w' => ∃ v', e = .returned v' ∧ Ints .u8 w' v' ((l.drop a).take n) ∧ RdTo w R v l w' (a + n) 0 := by
  have H := Lib.hid h
  obtain ⟨c0, c1, c2, f1, f2⟩ := h.cells
  obtain ⟨ad, c, rfl, g1, g2, g3, _⟩ := h.2
  clear h
  have hlt : ¬ (l.length : Int) - a < n := by omega
  have hd : c = a ∨ ¬ c = a := by omega
  rcases hd with hca | hca
  · subst hca
    go_enter Try.func94, Try.ntmps94
    go_wp2
    go_quiet (fail)
    go_wp2
    go_quiet (fail)
    go_wp2
    go_ret
    have hn0 : n = 0 := by omega
    refine ⟨_, rfl, by (subst hn0; simp; exact ints_nil _ _ _ _ (by omega)), (((H.out.drewN _).set1' (c + n) ((c : Int) + n) (by omega)).drewN _), only_drewN (only_trans (only_drewN (only_refl _ _) _) (only_set _ _ _ _)) _⟩
  · go_enter Try.func94, Try.ntmps94
    go_wp2
    go_quiet (fail)
    go_wp2
    go_quiet (fail)
    go_wp2
    go_ret
    have hI := fun d => (((H.out.drewN d).set1' (a + n)) ((a : Int) + n) (by omega)).2
    refine ⟨_, rfl, (((hI _).cutAt (i := a) (m := n) (by omega) (c - a) (by omega) (by omega) (fun hm b o e => ?_)).len (by omega)).drewN _, (((H.out.drewN _).set1' (a + n) ((a : Int) + n) (by omega)).drewN _), only_drewN (only_trans (only_drewN (only_refl _ _) _) (only_set _ _ _ _)) _⟩
    first | (subst e; simp [Addr.add]) | (cases e; rfl)
end Go.Proofs.Ytfbodloidogliaa
