/-
  Walk of BinOne.
-/
import Derived.Test.YtfbodloidogliaaLaws21
import Derived.Deep.DeepCutAuto
namespace Go.Proofs.Ytfbodloidogliaa
open Go.RowKit

theorem rdIs_ok (l : List Int) (hb : AllB l) (a0 : Nat) : ∀ (n a : Nat) (acc : List Int), a ≤ l.length → (rdIs l a0 n a acc).2.2 = 0 →
    ∃ m : List Int, m.length = n ∧ (rdIs l a0 n a acc).1 = acc ++ m ∧ a ≤ (rdIs l a0 n a acc).2.1 ∧ (rdIs l a0 n a acc).2.1 ≤ l.length ∧ putsIs m = (l.drop a).take ((rdIs l a0 n a acc).2.1 - a) := by
  intro n
  induction n with
  | zero => intro a acc h _; exact ⟨[], rfl, by simp [rdIs], Nat.le_refl _, h, by simp [putsIs, rdIs]⟩
  | succ n ih =>
    intro a acc h he
    rw [rdIs] at he ⊢
    by_cases h1 : (rdI l a).2.2 = 0
    · rw [if_neg (by omega)] at he ⊢
      have hu : (rdU l a).2.2 = 0 := h1
      obtain ⟨g1, g2, g3, g4⟩ := rdU_ok l hb a hu
      obtain ⟨m, e1, e2, e3, e4, e5⟩ := ih (rdI l a).2.1 (acc ++ [(rdI l a).1]) g2 he
      refine ⟨(rdI l a).1 :: m, by simp [e1], by rw [e2]; simp, ?_, e4, ?_⟩
      · have : (rdI l a).2.1 = (rdU l a).2.1 := rfl
        omega
      · have hp : putsI (rdI l a).1 = (l.drop a).take ((rdU l a).2.1 - a) := by
          show putsU (zig (unzig (rdU l a).1)) = _
          rw [zig_unzig]; exact g4
        rw [putsIs, hp, e5]
        have ha' : (rdI l a).2.1 = (rdU l a).2.1 := rfl
        rw [ha'] at e3 ⊢
        generalize (rdIs l a0 n (rdU l a).2.1 (acc ++ [(rdI l a).1])).2.1 = z at *
        have : (l.drop (rdU l a).2.1) = (l.drop a).drop ((rdU l a).2.1 - a) := by rw [List.drop_drop]; congr 1; omega
        rw [this, ← List.take_add]
        congr 1
        omega
    · rw [if_pos h1] at he
      exact absurd he h1

theorem putsI_rd (l : List Int) (hb : AllB l) (h : (rdI l 0).2.2 = 0) : putsI (rdI l 0).1 = l.take (rdI l 0).2.1 ∧ (rdI l 0).2.1 ≤ l.length := by
  obtain ⟨g1, g2, g3, g4⟩ := rdU_ok l hb 0 h
  refine ⟨?_, g2⟩
  show putsU (zig (unzig (rdU l 0).1)) = _
  rw [zig_unzig, g4]
  simp; rfl

theorem putsU_rd (l : List Int) (hb : AllB l) (h : (rdU l 0).2.2 = 0) : putsU (rdU l 0).1 = l.take (rdU l 0).2.1 ∧ (rdU l 0).2.1 ≤ l.length := by
  obtain ⟨g1, g2, g3, g4⟩ := rdU_ok l hb 0 h
  refine ⟨?_, g2⟩
  rw [g4]; simp

theorem rdN_ok (l : List Int) (hb : AllB l) (most : Int) (h : (rdN l 0 most).2.2 = 0) : putsU (rdN l 0 most).1 = l.take (rdN l 0 most).2.1 ∧ (rdN l 0 most).2.1 ≤ l.length ∧ ((rdN l 0 most).1 : Int) ≤ most := by
  unfold rdN at h ⊢
  by_cases he : (rdU l 0).2.2 = 0
  · rw [if_neg (by omega)] at h ⊢
    by_cases hm : most < 0 ∨ most < ((rdU l 0).1 : Int)
    · rw [if_pos hm] at h; simp at h
    · rw [if_neg hm]
      have := putsU_rd l hb he
      exact ⟨this.1, this.2, by omega⟩
  · rw [if_pos he] at h; exact absurd h he

theorem putsText_rd (l : List Int) (hb : AllB l) (most : Int) (h : (rdText l 0 most).2.2 = 0) : putsText (rdText l 0 most).1 = l.take (rdText l 0 most).2.1 ∧ (rdText l 0 most).2.1 ≤ l.length ∧ (rdText l 0 most).1.length ≤ l.length := by
  unfold rdText at h ⊢
  by_cases he : (rdN l 0 most).2.2 = 0
  · rw [if_neg (by omega)] at h ⊢
    obtain ⟨h1, h2, _⟩ := rdN_ok l hb most he
    by_cases hs : l.length < (rdN l 0 most).2.1 + (rdN l 0 most).1
    · rw [if_pos hs] at h; simp at h
    · rw [if_neg hs]
      refine ⟨?_, by simp only; omega, by simp; omega⟩
      have hl : ((l.drop (rdN l 0 most).2.1).take (rdN l 0 most).1).length = (rdN l 0 most).1 := by simp; omega
      rw [putsText, hl, h1, ← List.take_add]
  · rw [if_pos he] at h; exact absurd h he

theorem putsInts_rd (l : List Int) (hb : AllB l) (most : Int) (h : (rdInts l 0 most).2.2 = 0) : putsInts (rdInts l 0 most).1 = l.take (rdInts l 0 most).2.1 ∧ (rdInts l 0 most).2.1 ≤ l.length ∧ ((rdInts l 0 most).1.length : Int) ≤ most := by
  unfold rdInts at h ⊢
  by_cases he : (rdN l 0 most).2.2 = 0
  · rw [if_neg (by omega)] at h ⊢
    obtain ⟨h1, h2, h3⟩ := rdN_ok l hb most he
    obtain ⟨m, e1, e2, e3, e4, e5⟩ := rdIs_ok l hb 0 _ _ [] h2 h
    rw [List.nil_append] at e2
    refine ⟨?_, e4, by rw [e2, e1]; exact h3⟩
    rw [e2, putsInts, e1, e5, h1, ← List.take_add]
    congr 1
    omega
  · rw [if_pos he] at h; exact absurd h he

theorem rdI_64 (l : List Int) (hb : AllB l) (a : Nat) : Ok64 (rdI l a).1 := by
  have hn := (rdU'_facts l hb a 0).2
  rw [rdU', if_pos rfl] at hn
  show Ok64 (unzig (rdU l a).1)
  unfold Ok64 unzig
  split <;> omega

theorem rdIs_64 (l : List Int) (hb : AllB l) (a0 : Nat) : ∀ (n a : Nat) (acc : List Int), (∀ x ∈ acc, Ok64 x) → ∀ x ∈ (rdIs l a0 n a acc).1, Ok64 x := by
  intro n
  induction n with
  | zero => intro a acc h; exact h
  | succ n ih =>
    intro a acc h
    rw [rdIs]
    split
    · intro x hx; simp at hx
    · refine ih _ _ ?_
      intro x hx
      simp at hx
      rcases hx with hx | rfl
      · exact h x hx
      · exact rdI_64 l hb a

theorem rdInts_64 (l : List Int) (hb : AllB l) (most : Int) : ∀ x ∈ (rdInts l 0 most).1, Ok64 x := by
  unfold rdInts
  split
  · intro x hx; simp at hx
  · exact rdIs_64 l hb 0 _ _ [] (by simp)

theorem Ints.takeV {kd : IntKind} {w : World} {a : Option Addr} {c n k : Nat} {l : List Int} (h : Ints kd w (.slice a n c) l) (hk : k ≤ l.length) : Ints kd w (.slice a k c) (l.take k) := (h.take hk).2

set_option maxRecDepth 100000 in
set_option maxHeartbeats 4000000 in
theorem binOne_walk {w : World} (v : Value) (l : List Int) (h : ArgInts .u8 w v l) :
    Calls Try.prog 14 #[v] w fun e w' => e = .returned (.bool true) ∧ Below w.heap.size w w' := by
  have hb := argsB h
  by_cases hbig : (600 : Int) < l.length
  · obtain ⟨ad, c, rfl, _⟩ := h
    go_enter Try.func14, Try.ntmps14
    go_wp2_with fail
    refine (lives21_any w).mono ?_
    rintro e w1 ⟨rfl, b1⟩
    have B1 := Lib.hid b1
    clear b1
    go_wp2
    go_ret
    exact ⟨rfl, B1.out⟩
  · have hi := h.ints (by omega)
    have hl6 : l.length ≤ 100000 := by omega
    have HI := Lib.hid hi
    have f1 := fun W hW => from_any v l W hW hl6
    have F := Lib.hid f1
    have g1 := putsU_rd l hb; have g2 := putsI_rd l hb; have g3 := putsText_rd l hb 600; have g4 := putsInts_rd l hb 600
    have k2 := rdI_64 l hb 0; have k4 := rdInts_64 l hb 600
    have n1 := (rdU'_facts l hb 0 0).2
    rw [rdU', if_pos rfl] at n1
    have q1 := fun R vr W (hW : Rd W R vr l 0 0) => readU_any hW hb (Nat.zero_le _) hl6
    have q2 := fun R vr W (hW : Rd W R vr l 0 0) => readI_any hW hb (Nat.zero_le _) hl6
    have q3 := fun R vr W (hW : Rd W R vr l 0 0) => readText_any hW hb (Nat.zero_le _) hl6 600 (by decide)
    have q4 := fun R vr W (hW : Rd W R vr l 0 0) => readInts_any hW hb (Nat.zero_le _) hl6 600 (by decide)
    generalize rdU l 0 = r1 at *
    generalize rdI l 0 = r2 at *
    generalize rdText l 0 600 = r3 at *
    generalize rdInts l 0 600 = r4 at *
    obtain ⟨x1, a1, e1⟩ := r1
    obtain ⟨x2, a2, e2⟩ := r2
    obtain ⟨x3, a3, e3⟩ := r3
    obtain ⟨x4, a4, e4⟩ := r4
    simp only at g1 g2 g3 g4 k2 k4 n1 q1 q2
    have n1' : (x1 : Int) ≤ 18446744073709551615 := by omega
    have Q1 := Lib.hid q1; have Q2 := Lib.hid q2; have Q3 := Lib.hid q3; have Q4 := Lib.hid q4
    have G1 := Lib.hid g1; have G2 := Lib.hid g2; have G3 := Lib.hid g3; have G4 := Lib.hid g4
    have K2 := Lib.hid k2; have K4 := Lib.hid k4
    obtain ⟨ad, c, rfl, hlc, hc63, _, _⟩ := hi
    clear h f1 q1 q2 q3 q4 g1 g2 g3 g4 k2 k4 n1
    go_enter Try.func14, Try.ntmps14
    go_wp2_with fail
    refine (F.out w HI.out).mono ?_
    rintro e w1 ⟨R1, v1, rfl, hR1, r1, b1⟩
    have B1 := Lib.hid b1; have A1 := Lib.hid r1
    have L1 := r1.lt
    clear b1 r1
    go_wp2_with fail
    refine (F.out w1 (HI.out.below B1.out)).mono ?_
    rintro e w2 ⟨R2, v2, rfl, hR2, r2, b2⟩
    have B2 := Lib.hid (B1.out.trans (b2.mono B1.out.size)); have A2 := Lib.hid r2; have A1 := Lib.hid (A1.out.below b2)
    have L2 := r2.lt; have S2 := b2.size
    clear b2 r2
    go_wp2_with fail
    refine (F.out w2 (HI.out.below B2.out)).mono ?_
    rintro e w3 ⟨R3, v3, rfl, hR3, r3, b3⟩
    have B3 := Lib.hid (B2.out.trans (b3.mono B2.out.size)); have A3 := Lib.hid r3; have A2 := Lib.hid (A2.out.below b3); have A1 := Lib.hid (A1.out.below b3)
    have L3 := r3.lt; have S3 := b3.size
    clear b3 r3
    go_wp2_with fail
    refine (F.out w3 (HI.out.below B3.out)).mono ?_
    rintro e w4 ⟨R4, v4, rfl, hR4, r4, b4⟩
    have B4 := Lib.hid (B3.out.trans (b4.mono B3.out.size)); have A4 := Lib.hid r4; have A3 := Lib.hid (A3.out.below b4); have A2 := Lib.hid (A2.out.below b4); have A1 := Lib.hid (A1.out.below b4)
    have L4 := r4.lt; have S4 := b4.size
    have S0 := B1.out.size
    clear b4 r4
    obtain ⟨n12, n13, n14, n23, n24, n34⟩ : R1 ≠ R2 ∧ R1 ≠ R3 ∧ R1 ≠ R4 ∧ R2 ≠ R3 ∧ R2 ≠ R4 ∧ R3 ≠ R4 := by refine ⟨?_, ?_, ?_, ?_, ?_, ?_⟩ <;> omega
    obtain ⟨m1, m2, m3, m4⟩ : w.heap.size ≤ R1 ∧ w.heap.size ≤ R2 ∧ w.heap.size ≤ R3 ∧ w.heap.size ≤ R4 := by refine ⟨?_, ?_, ?_, ?_⟩ <;> omega
    go_wp2_with fail
    refine (Q1.out R1 v1 w4 A1.out).mono ?_
    rintro e w5 ⟨rfl, r5⟩
    have B5 := Lib.hid (below_only B4.out r5.2 (Nat.le_refl _) m1); have A2 := Lib.hid (A2.out.other A1.out (Ne.symm n12) r5.2); have A3 := Lib.hid (A3.out.other A1.out (Ne.symm n13) r5.2); have A4 := Lib.hid (A4.out.other A1.out (Ne.symm n14) r5.2); have A1 := Lib.hid r5.1
    clear r5
    go_wp2_with fail
    refine (Q2.out R2 v2 w5 A2.out).mono ?_
    rintro e w6 ⟨rfl, r5⟩
    have B6 := Lib.hid (below_only B5.out r5.2 (Nat.le_refl _) m2); have A1 := Lib.hid (A1.out.other A2.out n12 r5.2); have A3 := Lib.hid (A3.out.other A2.out (Ne.symm n23) r5.2); have A4 := Lib.hid (A4.out.other A2.out (Ne.symm n24) r5.2); have A2 := Lib.hid r5.1
    clear r5
    go_wp2_with fail
    refine (Q3.out R3 v3 w6 A3.out).mono ?_
    rintro e w7 ⟨vt, rfl, it, r5⟩
    simp only at it r5
    have T7 := Lib.hid it
    have B7 := Lib.hid (below_only B6.out r5.2 (Nat.le_refl _) m3); have A1 := Lib.hid (A1.out.other A3.out n13 r5.2); have A2 := Lib.hid (A2.out.other A3.out n23 r5.2); have A4 := Lib.hid (A4.out.other A3.out (Ne.symm n34) r5.2); have A3 := Lib.hid r5.1
    clear r5 it
    go_wp2_with fail
    refine (Q4.out R4 v4 w7 A4.out).mono ?_
    rintro e w8 ⟨vi, rfl, it, r5⟩
    simp only at it r5
    have U8 := Lib.hid it
    have T8 := Lib.hid (Ints.only_rd A4.out T7.out r5.2)
    have B8 := Lib.hid (below_only B7.out r5.2 (Nat.le_refl _) m4); have A1 := Lib.hid (A1.out.other A4.out n14 r5.2); have A2 := Lib.hid (A2.out.other A4.out n24 r5.2); have A3 := Lib.hid (A3.out.other A4.out n34 r5.2); have A4 := Lib.hid r5.1
    clear r5 it
    have V8 := Lib.hid (HI.out.below B8.out)
    have BX := Lib.hid (Below.refl w8.heap.size w8)
    go_upto_region 7 with fail
    go_cut [69] (fun s wx => s = .bool false ∧ Below w8.heap.size w8 wx)
    case first =>
      by_cases he : e1 = 0
      · obtain ⟨p1, p2⟩ := G1.out he
        subst he
        have P1 := Lib.hid p1
        clear p1
        have pa : (a1 : Int) ≤ l.length := by omega
        have pc : a1 ≤ c := by omega
        go_wp2_with fail
        refine (err_any (A1.out.below BX.out)).mono ?_
        rintro e w9 ⟨rfl, rfl⟩
        go_wp2_with fail
        refine (at_any (A1.out.below BX.out)).mono ?_
        rintro e w9 ⟨rfl, rfl⟩
        go_wp2_with fail
        refine (at_any (A1.out.below BX.out)).mono ?_
        rintro e w9 ⟨rfl, rfl⟩
        go_wp2_with fail
        refine (rU_any x1 _ n1').mono ?_
        rintro e w9 ⟨v9, rfl, o9, b9⟩
        have O9 := Lib.hid (OwnB.ints o9 (by have := congrArg List.length P1.out; simp at this; omega)); have B9 := Lib.hid (BX.out.trans (b9.mono BX.out.size))
        clear o9 b9
        go_wp2_with fail
        refine (at_any (A1.out.below B9.out)).mono ?_
        rintro e w10 ⟨rfl, rfl⟩
        go_wp2_with fail
        refine (same21_eq _ _ (l.take a1) _ (P1.out ▸ O9.out) ((V8.out.below B9.out).takeV p2)).mono ?_
        rintro e w10 ⟨rfl, rfl⟩
        go_wp2_with fail
        go_meet
        case rel => exact ⟨by simp; omega, B9.out⟩
      · have hne : (e1 == 0) = false := by simpa using he
        go_wp2_with fail
        refine (err_any (A1.out.below BX.out)).mono ?_
        rintro e w9 ⟨rfl, rfl⟩
        go_wp2_with fail
        go_meet
        case rel => exact ⟨rfl, BX.out⟩
    case rest =>
      obtain ⟨rfl, bx⟩ := hcut
      clear BX
      have BX := Lib.hid bx
      clear bx
      go_upto_region 9 with fail
      go_cut [94] (fun s wx => s = .bool false ∧ Below w8.heap.size w8 wx)
      case first =>
        by_cases he : e2 = 0
        · obtain ⟨p1, p2⟩ := G2.out he
          subst he
          have P1 := Lib.hid p1
          clear p1
          have pa : (a2 : Int) ≤ l.length := by omega
          have pc : a2 ≤ c := by omega
          go_wp2_with fail
          refine (err_any (A2.out.below BX.out)).mono ?_
          rintro e w9 ⟨rfl, rfl⟩
          go_wp2_with fail
          refine (at_any (A2.out.below BX.out)).mono ?_
          rintro e w9 ⟨rfl, rfl⟩
          go_wp2_with fail
          refine (at_any (A2.out.below BX.out)).mono ?_
          rintro e w9 ⟨rfl, rfl⟩
          go_wp2_with fail
          refine (rI_any x2 _ K2.out).mono ?_
          rintro e w9 ⟨v9, rfl, o9, b9⟩
          have O9 := Lib.hid (OwnB.ints o9 (by have := congrArg List.length P1.out; simp at this; omega)); have B9 := Lib.hid (BX.out.trans (b9.mono BX.out.size))
          clear o9 b9
          go_wp2_with fail
          refine (at_any (A2.out.below B9.out)).mono ?_
          rintro e w10 ⟨rfl, rfl⟩
          go_wp2_with fail
          refine (same21_eq _ _ (l.take a2) _ (P1.out ▸ O9.out) ((V8.out.below B9.out).takeV p2)).mono ?_
          rintro e w10 ⟨rfl, rfl⟩
          go_wp2_with fail
          go_meet
          case rel => exact ⟨by simp; omega, B9.out⟩
        · have hne : (e2 == 0) = false := by simpa using he
          go_wp2_with fail
          refine (err_any (A2.out.below BX.out)).mono ?_
          rintro e w9 ⟨rfl, rfl⟩
          go_wp2_with fail
          go_meet
          case rel => exact ⟨rfl, BX.out⟩
      case rest =>
        obtain ⟨rfl, bx⟩ := hcut
        clear BX
        have BX := Lib.hid bx
        clear bx
        go_upto_region 11 with fail
        go_cut [119] (fun s wx => s = .bool false ∧ Below w8.heap.size w8 wx)
        case first =>
          by_cases he : e3 = 0
          · obtain ⟨p1, p2, p3⟩ := G3.out he
            subst he
            have P1 := Lib.hid p1
            clear p1
            have pa : (a3 : Int) ≤ l.length := by omega
            have pc : a3 ≤ c := by omega
            go_wp2_with fail
            refine (err_any (A3.out.below BX.out)).mono ?_
            rintro e w9 ⟨rfl, rfl⟩
            go_wp2_with fail
            refine (at_any (A3.out.below BX.out)).mono ?_
            rintro e w9 ⟨rfl, rfl⟩
            go_wp2_with fail
            refine (at_any (A3.out.below BX.out)).mono ?_
            rintro e w9 ⟨rfl, rfl⟩
            go_wp2_with fail
            refine (rText_any _ x3 _ (T8.out.below BX.out) (by omega)).mono ?_
            rintro e w9 ⟨v9, rfl, o9, b9⟩
            have O9 := Lib.hid (OwnB.ints o9 (by have := congrArg List.length P1.out; simp at this; omega)); have B9 := Lib.hid (BX.out.trans (b9.mono BX.out.size))
            clear o9 b9
            go_wp2_with fail
            refine (at_any (A3.out.below B9.out)).mono ?_
            rintro e w10 ⟨rfl, rfl⟩
            go_wp2_with fail
            refine (same21_eq _ _ (l.take a3) _ (P1.out ▸ O9.out) ((V8.out.below B9.out).takeV p2)).mono ?_
            rintro e w10 ⟨rfl, rfl⟩
            go_wp2_with fail
            go_meet
            case rel => exact ⟨by simp; omega, B9.out⟩
          · have hne : (e3 == 0) = false := by simpa using he
            go_wp2_with fail
            refine (err_any (A3.out.below BX.out)).mono ?_
            rintro e w9 ⟨rfl, rfl⟩
            go_wp2_with fail
            go_meet
            case rel => exact ⟨rfl, BX.out⟩
        case rest =>
          obtain ⟨rfl, bx⟩ := hcut
          clear BX
          have BX := Lib.hid bx
          clear bx
          by_cases he : e4 = 0
          · obtain ⟨p1, p2, p3⟩ := G4.out he
            subst he
            have P1 := Lib.hid p1
            clear p1
            have pa : (a4 : Int) ≤ l.length := by omega
            have pc : a4 ≤ c := by omega
            go_wp2_with fail
            refine (err_any (A4.out.below BX.out)).mono ?_
            rintro e w9 ⟨rfl, rfl⟩
            go_wp2_with fail
            refine (at_any (A4.out.below BX.out)).mono ?_
            rintro e w9 ⟨rfl, rfl⟩
            go_wp2_with fail
            refine (at_any (A4.out.below BX.out)).mono ?_
            rintro e w9 ⟨rfl, rfl⟩
            go_wp2_with fail
            refine (rInts_any _ x4 _ (U8.out.below BX.out) K4.out (by omega)).mono ?_
            rintro e w9 ⟨v9, rfl, o9, b9⟩
            have O9 := Lib.hid (OwnB.ints o9 (by have := congrArg List.length P1.out; simp at this; omega)); have B9 := Lib.hid (BX.out.trans (b9.mono BX.out.size))
            clear o9 b9
            go_wp2_with fail
            refine (at_any (A4.out.below B9.out)).mono ?_
            rintro e w10 ⟨rfl, rfl⟩
            go_wp2_with fail
            refine (same21_eq _ _ (l.take a4) _ (P1.out ▸ O9.out) ((V8.out.below B9.out).takeV p2)).mono ?_
            rintro e w10 ⟨rfl, rfl⟩
            go_wp2_with fail
            refine (lives21_any _).mono ?_
            rintro e w10 ⟨rfl, b10⟩
            have B10 := Lib.hid (b10.mono B9.out.size)
            clear b10
            go_wp2
            go_ret
            exact ⟨rfl, B8.out.trans ((B9.out.trans B10.out).mono B8.out.size)⟩
          · have hne : (e4 != 0) = true := by simpa using he
            go_wp2_with fail
            refine (err_any (A4.out.below BX.out)).mono ?_
            rintro e w9 ⟨rfl, rfl⟩
            go_wp2_with fail
            refine (lives21_any _).mono ?_
            rintro e w10 ⟨rfl, b10⟩
            have B10 := Lib.hid (b10.mono BX.out.size)
            clear b10
            go_wp2
            go_ret
            exact ⟨rfl, B8.out.trans ((BX.out.trans B10.out).mono B8.out.size)⟩
end Go.Proofs.Ytfbodloidogliaa
