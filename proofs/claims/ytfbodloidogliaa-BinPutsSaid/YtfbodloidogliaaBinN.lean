/-
  Walks of the reader's small methods; a reader of bytes; what is dead reads nothing (layer 21).
-/
import Derived.Test.YtfbodloidogliaaBinM
namespace Go.Proofs.Ytfbodloidogliaa
open Go.RowKit

set_option maxRecDepth 100000 in
theorem from_any (v : Value) (l : List Int) (w : World) (h : Ints .u8 w v l) (hl : l.length ≤ 100000) :
    Calls Try.prog 64 #[v] w fun e w' => ∃ R v', e = .returned (.pointer (some ⟨R, 0, none⟩)) ∧ w.heap.size ≤ R ∧ Rd w' R v' l 0 0 ∧ Below w.heap.size w w' := by
  have HC := Lib.hid (clone8_any v l w h (by omega))
  clear h
  go_enter Try.func64, Try.ntmps64
  go_wp2_with fail
  refine HC.out.mono ?_
  rintro e w1 ⟨v1, rfl, ho, hb⟩
  have hI : Ints .u8 w1 v1 l := (Ints.own ho (by omega)).2
  have HI := Lib.hid hI; have HB := Lib.hid hb
  obtain ⟨ad, c, rfl⟩ := hI.shape
  clear ho hb hI
  go_wp2
  go_ret
  have hI := HI.out
  have hb1 : Below w1.heap.size w1 (w1.alloc (.cells #[.slice ad l.length c, .int .i64 0, .int .i64 0] 108)) := (Below.refl _ _).alloc (Nat.le_refl _) _
  exact ⟨w1.heap.size, _, rfl, HB.out.size, ⟨heap_alloc_new w1 _, hI.below hb1⟩, HB.out.alloc HB.out.size _⟩

theorem at_any {w : World} {R : Nat} {v : Value} {l : List Int} {a : Nat} {e0 : Int} (h : Rd w R v l a e0) : Calls Try.prog 74 #[.pointer (some ⟨R, 0, none⟩)] w fun e w' => e = .returned (.int .i64 a) ∧ w = w' := by
  obtain ⟨c0, c1, c2, f1, f2⟩ := h.cells
  clear h
  go_enter Try.func74, Try.ntmps74
  go_wp2
  go_ret
  exact ⟨rfl, rfl⟩

theorem err_any {w : World} {R : Nat} {v : Value} {l : List Int} {a : Nat} {e0 : Int} (h : Rd w R v l a e0) : Calls Try.prog 71 #[.pointer (some ⟨R, 0, none⟩)] w fun e w' => e = .returned (.int .i64 e0) ∧ w = w' := by
  obtain ⟨c0, c1, c2, f1, f2⟩ := h.cells
  clear h
  go_enter Try.func71, Try.ntmps71
  go_wp2
  go_ret
  exact ⟨rfl, rfl⟩

theorem err_nil (w : World) : Calls Try.prog 71 #[.pointer none] w fun e w' => e = .returned (.int .i64 7) ∧ w = w' := by
  go_enter Try.func71, Try.ntmps71
  go_wp2
  go_ret
  exact ⟨rfl, rfl⟩

theorem bleft_any {w : World} {R : Nat} {v : Value} {l : List Int} {a : Nat} {e0 : Int} (h : Rd w R v l a e0) (ha : a ≤ l.length) (hl : l.length ≤ 100000) : Calls Try.prog 72 #[.pointer (some ⟨R, 0, none⟩)] w fun e w' => e = .returned (.int .i64 ((l.length : Int) - a)) ∧ ∃ d, w' = w.drewN d := by
  obtain ⟨c0, c1, c2, f1, f2⟩ := h.cells
  obtain ⟨ad, c, rfl⟩ := h.2.shape
  clear h
  go_enter Try.func72, Try.ntmps72
  go_wp2
  go_quiet (fail)
  go_wp2
  go_ret
  exact ⟨rfl, _, rfl⟩

/-- How a reader that is made to fail fails. -/
def failE (e0 x : Int) : Int := if e0 = 0 then (if x = 0 then 211 else x) else e0

set_option maxRecDepth 100000 in
theorem fail_any {w : World} {R : Nat} {v : Value} {l : List Int} {a : Nat} {e0 : Int} (h : Rd w R v l a e0) (x : Int) : Calls Try.prog 96 #[.pointer (some ⟨R, 0, none⟩), .int .i64 x] w fun e w' => e = .returned (.tuple #[]) ∧ RdTo w R v l w' a (failE e0 x) := by
  obtain ⟨c0, c1, c2, f1, f2⟩ := h.cells
  have H := Lib.hid h
  clear h
  by_cases he : e0 = 0
  · subst he
    by_cases hx : x = 0
    · subst hx
      rw [failE, if_pos rfl, if_pos rfl]
      go_enter Try.func96, Try.ntmps96
      go_wp2_with fail
      refine (dead_no H.out).mono ?_
      rintro e w1 ⟨rfl, rfl⟩
      go_wp2
      go_end0
      exact ⟨rfl, H.out.set2 211, only_set _ _ _ _⟩
    · rw [failE, if_pos rfl, if_neg hx]
      have hxb : (x == 0) = false := by simpa using hx
      go_enter Try.func96, Try.ntmps96
      go_wp2_with fail
      refine (dead_no H.out).mono ?_
      rintro e w1 ⟨rfl, rfl⟩
      go_wp2
      go_end0
      exact ⟨rfl, H.out.set2 x, only_set _ _ _ _⟩
  · rw [failE, if_neg he]
    go_enter Try.func96, Try.ntmps96
    go_wp2_with fail
    refine (dead_yes H.out he).mono ?_
    rintro e w1 ⟨rfl, rfl⟩
    go_wp2
    refine bodyPost_ret (results_none rfl _ _ _) rfl ?_
    exact ⟨rfl, H.out, only_refl _ _⟩

def endE (l : List Int) (a : Nat) (e0 : Int) : Int := if a < l.length then failE e0 211 else e0

set_option maxRecDepth 100000 in
theorem end_any {w : World} {R : Nat} {v : Value} {l : List Int} {a : Nat} {e0 : Int} (h : Rd w R v l a e0) (ha : a ≤ l.length) (hl : l.length ≤ 100000) : Calls Try.prog 69 #[.pointer (some ⟨R, 0, none⟩)] w fun e w' => e = .returned (.tuple #[]) ∧ RdTo w R v l w' a (endE l a e0) := by
  have H := Lib.hid h
  clear h
  by_cases hlt : a < l.length
  · rw [endE, if_pos hlt]
    go_enter Try.func69, Try.ntmps69
    go_wp2_with fail
    refine (bleft_any H.out ha hl).mono ?_
    rintro e w1 ⟨rfl, d, rfl⟩
    go_wp2_with fail
    refine (fail_any (H.out.drewN d) 211).mono ?_
    rintro e w1 ⟨rfl, h1⟩
    have H1 := Lib.hid h1
    clear h1
    go_wp2
    go_end0
    exact ⟨rfl, H1.out.1, only_trans (only_drewN (only_refl _ _) _) H1.out.2⟩
  · rw [endE, if_neg hlt]
    go_enter Try.func69, Try.ntmps69
    go_wp2_with fail
    refine (bleft_any H.out ha hl).mono ?_
    rintro e w1 ⟨rfl, d, rfl⟩
    go_wp2
    go_end0
    exact ⟨rfl, H.out.drewN d, only_drewN (only_refl _ _) _⟩

theorem readU_dead {w : World} {R : Nat} {v : Value} {l : List Int} {a : Nat} {e0 : Int} (h : Rd w R v l a e0) (he : e0 ≠ 0) : Calls Try.prog 65 #[.pointer (some ⟨R, 0, none⟩)] w fun e w' => e = .returned (.int .u64 0) ∧ w = w' := by
  have H := Lib.hid (dead_yes h he)
  clear h he
  go_enter_defers Try.func65, Try.ntmps65
  go_wp2_with fail
  refine H.out.mono ?_
  rintro e w1 ⟨rfl, rfl⟩
  go_wp2
  exact ⟨_, results_tmp rfl _ _ _, rfl, rfl⟩

theorem readU_nil (w : World) : Calls Try.prog 65 #[.pointer none] w fun e w' => e = .returned (.int .u64 0) ∧ w = w' := by
  go_enter_defers Try.func65, Try.ntmps65
  go_wp2_with fail
  refine (dead_nil w).mono ?_
  rintro e w1 ⟨rfl, rfl⟩
  go_wp2
  exact ⟨_, results_tmp rfl _ _ _, rfl, rfl⟩

theorem readN_dead {w : World} {R : Nat} {v : Value} {l : List Int} {a : Nat} {e0 : Int} (h : Rd w R v l a e0) (he : e0 ≠ 0) (most : Int) : Calls Try.prog 95 #[.pointer (some ⟨R, 0, none⟩), .int .i64 most] w fun e w' => e = .returned (.int .i64 0) ∧ w = w' := by
  have H := Lib.hid (dead_yes h he)
  clear h he
  go_enter_defers Try.func95, Try.ntmps95
  go_wp2_with fail
  refine H.out.mono ?_
  rintro e w1 ⟨rfl, rfl⟩
  go_wp2
  exact ⟨_, results_tmp rfl _ _ _, rfl, rfl⟩

set_option maxRecDepth 100000 in
theorem readI_dead {w : World} {R : Nat} {v : Value} {l : List Int} {a : Nat} {e0 : Int} (h : Rd w R v l a e0) (he : e0 ≠ 0) : Calls Try.prog 66 #[.pointer (some ⟨R, 0, none⟩)] w fun e w' => e = .returned (.int .i64 0) ∧ w = w' := by
  have H := Lib.hid (readU_dead h he)
  clear h he
  go_enter Try.func66, Try.ntmps66
  go_wp2_with fail
  refine H.out.mono ?_
  rintro e w1 ⟨rfl, rfl⟩
  go_wp2
  go_ret
  exact ⟨ret_int (by decide +kernel), rfl⟩

theorem readText_dead {w : World} {R : Nat} {v : Value} {l : List Int} {a : Nat} {e0 : Int} (h : Rd w R v l a e0) (he : e0 ≠ 0) (most : Int) : Calls Try.prog 67 #[.pointer (some ⟨R, 0, none⟩), .int .i64 most] w fun e w' => e = .returned (.slice none 0 0) ∧ w = w' := by
  have H := Lib.hid (dead_yes h he)
  clear h he
  go_enter_defers Try.func67, Try.ntmps67
  go_wp2_with fail
  refine H.out.mono ?_
  rintro e w1 ⟨rfl, rfl⟩
  go_wp2
  exact ⟨_, results_tmp rfl _ _ _, rfl, rfl⟩

theorem readInts_dead {w : World} {R : Nat} {v : Value} {l : List Int} {a : Nat} {e0 : Int} (h : Rd w R v l a e0) (he : e0 ≠ 0) (most : Int) : Calls Try.prog 68 #[.pointer (some ⟨R, 0, none⟩), .int .i64 most] w fun e w' => e = .returned (.slice none 0 0) ∧ w = w' := by
  have H := Lib.hid (dead_yes h he)
  clear h he
  go_enter_defers Try.func68, Try.ntmps68
  go_wp2_with fail
  refine H.out.mono ?_
  rintro e w1 ⟨rfl, rfl⟩
  go_wp2
  exact ⟨_, results_tmp rfl _ _ _, rfl, rfl⟩
end Go.Proofs.Ytfbodloidogliaa
