/-
  Walks of the reader's other methods (layer 21).
-/
import Derived.Test.YtfbodloidogliaaBinK
import Derived.Test.YtfbodloidogliaaBinH
namespace Go.Proofs.Ytfbodloidogliaa
open Go.RowKit

set_option maxRecDepth 100000 in
set_option maxHeartbeats 2000000 in
theorem readN_any {w : World} {R : Nat} {v : Value} {l : List Int} {a : Nat} (h : Rd w R v l a 0) (hb : AllB l) (ha : a ≤ l.length) (hl : l.length ≤ 100000) (most : Int) (hm : Ok64 most) :
    Calls Try.prog 95 #[.pointer (some ⟨R, 0, none⟩), .int .i64 most] w fun e w' => e = .returned (.int .i64 ((rdN l a most).1 : Int)) ∧ RdTo w R v l w' (rdN l a most).2.1 (rdN l a most).2.2 := by
  have HU := Lib.hid (readU_any h hb ha hl)
  have H := Lib.hid h
  obtain ⟨c0, c1, c2, f1, f2⟩ := h.cells
  have hbad := rdU_bad l a
  have hok := fun h => (rdU_ok l hb a h).2.2.1
  unfold rdN
  generalize rdU l a = r at *
  obtain ⟨n, a', e'⟩ := r
  simp only at hbad hok HU ⊢
  clear h
  unfold Ok64 at hm
  by_cases he : e' = 0
  · subst he
    have hn := hok rfl
    rw [if_neg (by omega)]
    clear hok hbad
    by_cases hmost : most < 0 ∨ most < (n : Int)
    · rw [if_pos hmost]
      have hc : most < 0 ∨ (¬ most < 0 ∧ most < (n : Int)) := by omega
      clear hmost
      rcases hc with hc | ⟨hc, hc2⟩
      all_goals
        go_enter_defers Try.func95, Try.ntmps95
        go_wp2_with fail
        refine (dead_no H.out).mono ?_
        rintro e w1 ⟨rfl, rfl⟩
        go_wp2_with fail
        refine HU.out.mono ?_
        rintro e w1 ⟨rfl, h1⟩
        obtain ⟨d0, d1, d2, g1, g2⟩ := h1.1.cells
        have H1 := Lib.hid h1
        clear h1
        go_wp2_with fail
        refine (dead_no H1.out.1).mono ?_
        rintro e w2 ⟨rfl, rfl⟩
        go_wp2_with fail
        refine (dead_yes (H1.out.1.set2 211) (by omega)).mono ?_
        rintro e w3 ⟨rfl, rfl⟩
        go_wp2
        refine leaves_cons (f := 93) (args := #[.pointer (some ⟨R, 0, none⟩), .int .i64 a]) (by simp) (by simp [go_sem]) ?_
        refine (back_rd .returning a (H1.out.1.set2 211)).mono ?_
        rintro e u' w'' ⟨rfl, rfl, h3⟩
        exact ⟨_, results_tmp rfl _ _ _, rfl, RdTo.trans ⟨H1.out.1.set2 211, only_trans H1.out.2 (only_set _ _ _ _)⟩ h3⟩
    · rw [if_neg hmost]
      obtain ⟨hm0, hm1⟩ : ¬ most < 0 ∧ ¬ most < (n : Int) := by omega
      have hn64 : (n : Int) ≤ 9223372036854775807 := by omega
      clear hmost
      go_enter_defers Try.func95, Try.ntmps95
      go_wp2_with fail
      refine (dead_no H.out).mono ?_
      rintro e w1 ⟨rfl, rfl⟩
      go_wp2_with fail
      refine HU.out.mono ?_
      rintro e w1 ⟨rfl, h1⟩
      obtain ⟨d0, d1, d2, g1, g2⟩ := h1.1.cells
      have H1 := Lib.hid h1
      clear h1
      go_wp2_with fail
      refine (dead_no H1.out.1).mono ?_
      rintro e w2 ⟨rfl, rfl⟩
      go_wp2_with fail
      refine (dead_no H1.out.1).mono ?_
      rintro e w3 ⟨rfl, rfl⟩
      go_wp2
      refine leaves_cons (f := 93) (args := #[.pointer (some ⟨R, 0, none⟩), .int .i64 a]) (by simp) (by simp [go_sem]) ?_
      refine (back_rd .returning a H1.out.1).mono ?_
      rintro e u' w'' ⟨rfl, rfl, h3⟩
      exact ⟨_, results_tmp rfl _ _ _, rfl, H1.out.trans h3⟩
  · obtain ⟨rfl, rfl⟩ := hbad he
    rw [if_pos he]
    clear hok hbad
    go_enter_defers Try.func95, Try.ntmps95
    go_wp2_with fail
    refine (dead_no H.out).mono ?_
    rintro e w1 ⟨rfl, rfl⟩
    go_wp2_with fail
    refine HU.out.mono ?_
    rintro e w1 ⟨rfl, h1⟩
    have H1 := Lib.hid h1
    clear h1
    go_wp2_with fail
    refine (dead_yes H1.out.1 he).mono ?_
    rintro e w2 ⟨rfl, rfl⟩
    go_wp2_with fail
    refine (dead_yes H1.out.1 he).mono ?_
    rintro e w3 ⟨rfl, rfl⟩
    go_wp2
    refine leaves_cons (f := 93) (args := #[.pointer (some ⟨R, 0, none⟩), .int .i64 a']) (by simp) (by simp [go_sem]) ?_
    refine (back_rd .returning a' H1.out.1).mono ?_
    rintro e u' w'' ⟨rfl, rfl, h3⟩
    rw [if_neg he] at h3
    exact ⟨_, results_tmp rfl _ _ _, rfl, H1.out.trans h3⟩

theorem unzig_bits {n : Nat} (h : n < 18446744073709551616) : bits BinOp.xor IntKind.i64 ((n : Int) / 2) (wrap64 (-wrap64 (bits BinOp.and IntKind.u64 (n : Int) 1))) = unzig n := by
  have hand : bits BinOp.and IntKind.u64 (n : Int) 1 = ((n % 2 : Nat) : Int) := by
    have := bits_and_u64_nat n 1 (by omega) (by omega)
    rw [Nat.and_one_is_mod] at this
    exact this
  have hw : wrap64 (-wrap64 ((n % 2 : Nat) : Int)) = -((n : Int) % 2) := by unfold wrap64; omega
  rw [hand, hw]
  unfold unzig
  by_cases h1 : n % 2 = 1
  · rw [if_pos h1]
    have e1 : -((n : Int) % 2) = -1 := by omega
    have e2 : (n : Int) / 2 = ((n / 2 : Nat) : Int) := by omega
    rw [e1, e2]
    show IntKind.i64.wrap ((BitVec.ofInt 64 ((n / 2 : Nat) : Int) ^^^ BitVec.ofInt 64 (-1)).toNat : Int) = _
    have e3 : BitVec.ofInt 64 (-1) = BitVec.allOnes 64 := by decide
    rw [e3, BitVec.xor_allOnes, BitVec.toNat_not, BitVec.ofInt_natCast, BitVec.toNat_ofNat, IntKind.wrap_i64]
    omega
  · rw [if_neg h1]
    have e1 : -((n : Int) % 2) = 0 := by omega
    have e2 : (n : Int) / 2 = ((n / 2 : Nat) : Int) := by omega
    rw [e1, e2]
    show IntKind.i64.wrap ((BitVec.ofInt 64 ((n / 2 : Nat) : Int) ^^^ BitVec.ofInt 64 0).toNat : Int) = _
    have e3 : BitVec.ofInt 64 0 = 0#64 := by decide
    rw [e3, BitVec.xor_zero, BitVec.ofInt_natCast, BitVec.toNat_ofNat, IntKind.wrap_i64]
    omega

set_option maxRecDepth 100000 in
set_option maxHeartbeats 2000000 in
theorem readI_any {w : World} {R : Nat} {v : Value} {l : List Int} {a : Nat} (h : Rd w R v l a 0) (hb : AllB l) (ha : a ≤ l.length) (hl : l.length ≤ 100000) :
    Calls Try.prog 66 #[.pointer (some ⟨R, 0, none⟩)] w fun e w' => e = .returned (.int .i64 (rdI l a).1) ∧ RdTo w R v l w' (rdI l a).2.1 (rdI l a).2.2 := by
  have HU := Lib.hid (readU_any h hb ha hl)
  have hn : (rdU l a).1 < 18446744073709551616 := by
    by_cases he : (rdU l a).2.2 = 0
    · exact (rdU_ok l hb a he).2.2.1
    · rw [(rdU_bad l a he).1]; decide
  unfold rdI
  generalize rdU l a = r at *
  obtain ⟨n, a', e'⟩ := r
  simp only at HU hn ⊢
  have hz := unzig_bits hn
  have HZ := Lib.hid hz
  clear h hz
  go_enter Try.func66, Try.ntmps66
  go_wp2_with fail
  refine HU.out.mono ?_
  rintro e w1 ⟨rfl, h1⟩
  have H1 := Lib.hid h1
  clear h1
  go_wp2
  go_ret
  exact ⟨ret_int HZ.out, H1.out⟩
end Go.Proofs.Ytfbodloidogliaa
