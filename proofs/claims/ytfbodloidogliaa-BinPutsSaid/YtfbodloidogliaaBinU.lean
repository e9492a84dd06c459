/-
  Walk of copselaw21.lives: what must come of every program.
-/
import Derived.Test.YtfbodloidogliaaBinT
import Derived.Test.YtfbodloidogliaaFrame
import Derived.Lib.SlBytesConst
namespace Go.Proofs.Ytfbodloidogliaa
open Go.RowKit

def liveB : List Int := [241, 1, 0, 3, 2, 97, 98, 2, 10, 1]
theorem liveB_all : AllB liveB := by
  intro x hx
  simp [liveB] at hx
  rcases hx with rfl | rfl | rfl | rfl | rfl | rfl | rfl | rfl | rfl | rfl <;> constructor <;> decide
theorem live2_all : AllB [240, 239] := by
  intro x hx
  simp at hx
  rcases hx with rfl | rfl <;> constructor <;> decide

theorem OwnB.ints {w : World} {base : Nat} {v : Value} {l : List Int} (h : OwnB w base v l) (hl : l.length ≤ 1000000) : Ints .u8 w v l := (Ints.own h (by omega)).2

theorem Ints.newF (k : IntKind) (W : World) (T : TypeId) (fr : Nat × Nat) (cs : Array Value) (l : List Int) (n c : Nat) (hcs : cs.toList = l.map (Value.int k)) (hn : n = l.length) (hc : n ≤ c) (hc2 : c ≤ 1000000) : Ints k (W.alloc (.cells cs T fr)) (.slice (some ⟨W.heap.size, 0, none⟩) n c) l := by
  subst hn
  refine ⟨_, _, rfl, hc, by omega, by omega, fun i x hi => ⟨W.heap.size, 0, rfl, by simp, ?_⟩⟩
  have hb := heap_alloc_new W (.cells cs T fr)
  simp only [World.cell?, hb]
  have : cs.toList[i]? = some (.int k x) := by rw [hcs]; simp [hi]
  simpa using this

/-- A reader at its end is left as it is. -/
theorem end_same {w : World} {R : Nat} {v : Value} {l : List Int} {a : Nat} {e0 : Int} (h : Rd w R v l a e0) (ha : a = l.length) (hl : l.length ≤ 100000) : Calls Try.prog 69 #[.pointer (some ⟨R, 0, none⟩)] w fun e w' => e = .returned (.tuple #[]) ∧ ∃ d, w' = w.drewN d := by
  subst ha
  have H := Lib.hid h
  clear h
  go_enter Try.func69, Try.ntmps69
  go_wp2_with fail
  refine (bleft_any H.out (Nat.le_refl _) hl).mono ?_
  rintro e w1 ⟨rfl, d, rfl⟩
  go_wp2
  go_end0
  exact ⟨rfl, d, rfl⟩

set_option maxRecDepth 100000 in
set_option maxHeartbeats 4000000 in
theorem lives21_any (w : World) : Calls Try.prog 54 #[] w fun e w' => e = .returned (.bool true) ∧ Below w.heap.size w w' := by
  have p1 : ∀ W : World, Calls Try.prog 56 #[.slice none 0 0, .int .u64 256] W fun e w' => ∃ v', e = .returned v' ∧ Ints .u8 w' v' [241, 1, 0] ∧ Below W.heap.size W w' := fun W =>
    (putU_any _ [] 256 W (ints_nil _ _ _ _ (by omega)) (by simp) (by omega)).mono fun e w' ⟨v, h1, h2, h3⟩ => ⟨v, h1, by have := h2.ints (by decide +kernel); rwa [show [] ++ putsU 256 = [241, 1, 0] by decide +kernel] at this, h3⟩
  have p2 : ∀ (v : Value) (W : World), Ints .u8 W v [241, 1, 0] → Calls Try.prog 58 #[v, .int .i64 (-2)] W fun e w' => ∃ v', e = .returned v' ∧ Ints .u8 w' v' [241, 1, 0, 3] ∧ Below W.heap.size W w' := fun v W hv =>
    (putI_any v _ (-2) W hv (by simp) (by decide)).mono fun e w' ⟨v, h1, h2, h3⟩ => ⟨v, h1, by have := h2.ints (by decide +kernel); rwa [show [241, 1, 0] ++ putsI (-2) = [241, 1, 0, 3] by decide +kernel] at this, h3⟩
  have p3 : ∀ (v v' : Value) (W : World), Ints .u8 W v [241, 1, 0, 3] → Ints .u8 W v' [97, 98] → Calls Try.prog 60 #[v, v'] W fun e w' => ∃ v', e = .returned v' ∧ Ints .u8 w' v' [241, 1, 0, 3, 2, 97, 98] ∧ Below W.heap.size W w' := fun v v' W hv hv' =>
    (putText_any v _ v' _ W hv hv' (by simp) (by simp)).mono fun e w' ⟨v, h1, h2, h3⟩ => ⟨v, h1, by have := h2.ints (by decide +kernel); rwa [show [241, 1, 0, 3] ++ putsText [97, 98] = [241, 1, 0, 3, 2, 97, 98] by decide +kernel] at this, h3⟩
  have p4 : ∀ (v v' : Value) (W : World), Ints .u8 W v [241, 1, 0, 3, 2, 97, 98] → Ints .i64 W v' [5, -1] → Calls Try.prog 62 #[v, v'] W fun e w' => ∃ v', e = .returned v' ∧ Ints .u8 w' v' liveB ∧ Below W.heap.size W w' := fun v v' W hv hv' =>
    (putInts_any v _ v' _ W hv hv' (by decide) (by simp) (by simp)).mono fun e w' ⟨v, h1, h2, h3⟩ => ⟨v, h1, by have := h2.ints (by decide +kernel); rwa [show [241, 1, 0, 3, 2, 97, 98] ++ putsInts [5, -1] = liveB by decide +kernel] at this, h3⟩
  have q1 : ∀ (R : Nat) (v : Value) (W : World), Rd W R v liveB 0 0 → Calls Try.prog 65 #[.pointer (some ⟨R, 0, none⟩)] W fun e w' => e = .returned (.int .u64 256) ∧ RdTo W R v liveB w' 3 0 := fun R v W h => by
    have := readU_any h liveB_all (by decide) (by decide)
    rw [show rdU liveB 0 = (256, 3, 0) by decide +kernel] at this
    exact this
  have q2 : ∀ (R : Nat) (v : Value) (W : World), Rd W R v liveB 3 0 → Calls Try.prog 66 #[.pointer (some ⟨R, 0, none⟩)] W fun e w' => e = .returned (.int .i64 (-2)) ∧ RdTo W R v liveB w' 4 0 := fun R v W h => by
    have := readI_any h liveB_all (by decide) (by decide)
    rw [show rdI liveB 3 = (-2, 4, 0) by decide +kernel] at this
    exact this
  have q3 : ∀ (R : Nat) (v : Value) (W : World), Rd W R v liveB 4 0 → Calls Try.prog 67 #[.pointer (some ⟨R, 0, none⟩), .int .i64 2] W fun e w' => RdT .u8 W R v liveB ([97, 98], 7, 0) e w' := fun R v W h => by
    have := readText_any h liveB_all (by decide) (by decide) 2 (by decide)
    rwa [show rdText liveB 4 2 = ([97, 98], 7, 0) by decide +kernel] at this
  have q4 : ∀ (R : Nat) (v : Value) (W : World), Rd W R v liveB 7 0 → Calls Try.prog 68 #[.pointer (some ⟨R, 0, none⟩), .int .i64 2] W fun e w' => RdT .i64 W R v liveB ([5, -1], 10, 0) e w' := fun R v W h => by
    have := readInts_any h liveB_all (by decide) (by decide) 2 (by decide)
    rwa [show rdInts liveB 7 2 = ([5, -1], 10, 0) by decide +kernel] at this
  have q5 : ∀ (R : Nat) (v : Value) (W : World), Rd W R v liveB 10 0 → Calls Try.prog 69 #[.pointer (some ⟨R, 0, none⟩)] W fun e w' => e = .returned (.tuple #[]) ∧ RdTo W R v liveB w' 10 0 := fun R v W h => by
    have := end_any h (by decide) (by decide)
    rwa [show endE liveB 10 0 = 0 by decide +kernel] at this
  have q6 : ∀ (R : Nat) (v : Value) (W : World), Rd W R v [240, 239] 0 0 → Calls Try.prog 65 #[.pointer (some ⟨R, 0, none⟩)] W fun e w' => e = .returned (.int .u64 0) ∧ RdTo W R v [240, 239] w' 0 211 := fun R v W h => by
    have := readU_any h live2_all (by decide) (by decide)
    rw [show rdU [240, 239] 0 = (0, 0, 211) by decide +kernel] at this
    exact this
  have q7 : ∀ (v v' : Value) (W : World), Ints .i64 W v [5, -1] → Ints .i64 W v' [5, -1] → Calls Try.prog 70 #[v, v'] W fun e w' => e = .returned (.bool true) ∧ ∃ n, w' = W.drewN n := fun v v' W h h' => by
    have := same_any v v' _ _ W h h'
    rwa [show decide (([5, -1] : List Int) = [5, -1]) = true by decide] at this
  have P1 := Lib.hid p1; have P2 := Lib.hid p2; have P3 := Lib.hid p3; have P4 := Lib.hid p4
  have Q1 := Lib.hid q1; have Q2 := Lib.hid q2; have Q3 := Lib.hid q3; have Q4 := Lib.hid q4; have Q5 := Lib.hid q5; have Q6 := Lib.hid q6; have Q7 := Lib.hid q7
  clear p1 p2 p3 p4 q1 q2 q3 q4 q5 q6 q7
  have kc := fun (w : World) (C : Array Value) (n c : Nat) => Lib.run_convert_bytes_const (P := Try.prog) w 58 5 C n c Try.underlying58 Try.underlying5
  go_enter Try.func54, Try.ntmps54
  go_wp2_with fail
  refine (P1.out w).mono ?_
  rintro e w1 ⟨v1, rfl, i1, b1⟩
  have I1 := Lib.hid i1; have B1 := Lib.hid b1
  clear i1 b1
  go_wp2_with fail
  refine (P2.out v1 w1 I1.out).mono ?_
  rintro e w2 ⟨v2, rfl, i1, b1⟩
  have I2 := Lib.hid i1; have B2 := Lib.hid (B1.out.trans (b1.mono B1.out.size))
  clear i1 b1 I1
  go_wp2_with fail
  have b3 : Below w2.heap.size w2 (w2.alloc (.cells #[.int .u8 97, .int .u8 98] 5 (2, 3))) := (Below.refl _ _).alloc (Nat.le_refl _) _
  have i3 : Ints .u8 (w2.alloc (.cells #[.int .u8 97, .int .u8 98] 5 (2, 3))) (.slice (some ⟨w2.heap.size, 0, none⟩) 2 2) [97, 98] := Ints.newF .u8 w2 _ _ _ _ 2 2 (by rfl) (by rfl) (by omega) (by omega)
  refine (P3.out v2 _ _ (I2.out.below b3) i3).mono ?_
  rintro e w3 ⟨v3, rfl, i1, b1⟩
  have I3 := Lib.hid i1; have B3 := Lib.hid ((B2.out.trans (b3.mono B2.out.size)).trans (b1.mono (by have := B2.out.size; simp; omega)))
  clear i1 b1 i3 b3 I2
  go_wp2_with fail
  have b3 : Below w3.heap.size w3 (w3.alloc (.cells #[.int .i64 5, .int .i64 (-1)] 3)) := (Below.refl _ _).alloc (Nat.le_refl _) _
  have i3 : Ints .i64 (w3.alloc (.cells #[.int .i64 5, .int .i64 (-1)] 3)) (.slice (some ⟨w3.heap.size, 0, none⟩) 2 2) [5, -1] := Ints.new .i64 w3 _ _ _ 2 2 (by rfl) (by rfl) (by omega) (by omega)
  refine (P4.out v3 _ _ (I3.out.below b3) i3).mono ?_
  rintro e w4 ⟨v4, rfl, i1, b1⟩
  have I4 := Lib.hid i1; have B4 := Lib.hid ((B3.out.trans (b3.mono B3.out.size)).trans (b1.mono (by have := B3.out.size; simp; omega)))
  clear i1 b1 i3 b3 I3
  go_wp2_with fail
  refine (from_any v4 liveB w4 I4.out (by decide)).mono ?_
  rintro e w5 ⟨R, vr, rfl, hR, r1, b1⟩
  have I5 := Lib.hid (I4.out.below b1); have B5 := Lib.hid (B4.out.trans (b1.mono B4.out.size)); have R5 := Lib.hid r1
  have hRw : w.heap.size ≤ R := Nat.le_trans B4.out.size hR
  clear b1 r1
  go_wp2_with fail
  refine (Q1.out R vr w5 R5.out).mono ?_
  rintro e w6 ⟨rfl, r1⟩
  have I6 := Lib.hid (Ints.only_rd R5.out I5.out r1.2); have B6 := Lib.hid (below_only B5.out r1.2 (Nat.le_refl _) hRw); have R6 := Lib.hid r1.1
  clear r1
  go_wp2_with fail
  refine (Q2.out R vr w6 R6.out).mono ?_
  rintro e w7 ⟨rfl, r1⟩
  have I7 := Lib.hid (Ints.only_rd R6.out I6.out r1.2); have B7 := Lib.hid (below_only B6.out r1.2 (Nat.le_refl _) hRw); have R7 := Lib.hid r1.1
  clear r1
  go_wp2_with fail
  refine (Q3.out R vr w7 R7.out).mono ?_
  rintro e w8 ⟨v8, rfl, i8, r1⟩
  have I8 := Lib.hid (Ints.only_rd R7.out I7.out r1.2); have B8 := Lib.hid (below_only B7.out r1.2 (Nat.le_refl _) hRw); have R8 := Lib.hid r1.1; have S8 := Lib.hid i8
  clear r1 i8
  go_wp2_with fail
  refine (Q4.out R vr w8 R8.out).mono ?_
  rintro e w9 ⟨v9, rfl, i9, r1⟩
  have I9 := Lib.hid (Ints.only_rd R8.out I8.out r1.2); have B9 := Lib.hid (below_only B8.out r1.2 (Nat.le_refl _) hRw); have R9 := Lib.hid r1.1; have S9 := Lib.hid (Ints.only_rd R8.out S8.out r1.2); have T9 := Lib.hid i9
  clear r1 i9
  go_wp2_with fail
  refine (end_same R9.out rfl (by decide)).mono ?_
  rintro e w10 ⟨rfl, d10, rfl⟩
  go_wp2_with fail
  have b3 : Below (w9.drewN d10).heap.size (w9.drewN d10) ((w9.drewN d10).alloc (.cells #[.int .u8 240, .int .u8 239] 5)) := (Below.refl _ _).alloc (Nat.le_refl _) _
  have i3 : Ints .u8 ((w9.drewN d10).alloc (.cells #[.int .u8 240, .int .u8 239] 5)) (.slice (some ⟨(w9.drewN d10).heap.size, 0, none⟩) 2 2) [240, 239] := Ints.new .u8 (w9.drewN d10) _ _ _ 2 2 (by rfl) (by rfl) (by omega) (by omega)
  have B10 := Lib.hid ((below_drewN B9.out d10).trans (b3.mono (below_drewN B9.out d10).size))
  have I10 := Lib.hid ((I9.out.drewN d10).below b3); have R10 := Lib.hid ((R9.out.drewN d10).below b3); have S10 := Lib.hid ((S9.out.drewN d10).below b3); have T10 := Lib.hid ((T9.out.drewN d10).below b3)
  clear b3
  refine (from_any _ [240, 239] _ i3 (by decide)).mono ?_
  rintro e w11 ⟨R', vr', rfl, hR', r1, b1⟩
  have B11 := Lib.hid (B10.out.trans (b1.mono B10.out.size))
  have I11 := Lib.hid (I10.out.below b1); have R11 := Lib.hid (R10.out.below b1); have S11 := Lib.hid (S10.out.below b1); have T11 := Lib.hid (T10.out.below b1); have K11 := Lib.hid r1
  have hne : R ≠ R' := by have := R10.out.lt; omega
  have bT : Below w9.heap.size w9 w11 := by (repeat (first | with_reducible exact Below.refl _ _ | ((with_reducible refine Below.setCell ?_ ?_ _); rotate_left; (focus (first | omega | (simp; done) | (simp; omega)))) | ((with_reducible refine Below.alloc ?_ ?_ _); rotate_left; (focus (first | omega | (simp; done) | (simp; omega)))) | (with_reducible refine Below.drew ?_) | (with_reducible refine below_drewN ?_ _) | ((with_reducible refine Below.trans ?_ (Below.mono b1 ?_)); rotate_left; (focus (first | omega | (simp; done) | (simp; omega))))))
  have BT := Lib.hid bT
  have hRT : w9.heap.size ≤ R' := by simpa using Nat.le_trans (show w9.heap.size ≤ _ by simp) hR'
  clear b1 r1 i3 bT
  go_wp2_with fail
  refine (Q6.out R' vr' w11 K11.out).mono ?_
  rintro e w12 ⟨rfl, r1⟩
  have T12 := Lib.hid (T9.out.below (below_only BT.out r1.2 (Nat.le_refl _) hRT))
  have K12 := Lib.hid r1.1
  have B12 := Lib.hid (below_only B11.out r1.2 (Nat.le_refl _) (Nat.le_trans B10.out.size hR'))
  have I12 := Lib.hid (Ints.only_rd K11.out I11.out r1.2); have R12 := Lib.hid (R11.out.other K11.out hne r1.2); have S12 := Lib.hid (Ints.only_rd K11.out S11.out r1.2)
  clear r1
  obtain ⟨ad8, c8, hv8⟩ := S12.out.shape
  subst hv8
  have hs : (strOfNums [97, 98]) = ⟨#[97, 98]⟩ := by decide +kernel
  go_wp2_with fail
  have b3 : Below w12.heap.size w12 (w12.alloc (.cells #[.int .u8 241, .int .u8 1, .int .u8 0, .int .u8 3, .int .u8 2, .int .u8 97, .int .u8 98, .int .u8 2, .int .u8 10, .int .u8 1] 5)) := (Below.refl _ _).alloc (Nat.le_refl _) _
  have i3 : Ints .u8 (w12.alloc (.cells #[.int .u8 241, .int .u8 1, .int .u8 0, .int .u8 3, .int .u8 2, .int .u8 97, .int .u8 98, .int .u8 2, .int .u8 10, .int .u8 1] 5)) (.slice (some ⟨w12.heap.size, 0, none⟩) 10 10) liveB := Ints.new .u8 w12 _ _ _ 10 10 (by rfl) (by rfl) (by omega) (by omega)
  refine (same21_eq v4 _ liveB _ (I12.out.below b3) i3).mono ?_
  rintro e w13 ⟨rfl, rfl⟩
  have hcv : (convert 58 9 (.slice ad8 2 c8)).run Try.prog _ = .ok (.string ⟨#[97, 98]⟩) _ := (S12.out.below b3).string.trans (by rw [hs])
  have B13 := Lib.hid (B12.out.trans (b3.mono B12.out.size))
  have R13 := Lib.hid (R12.out.below b3); have T13 := Lib.hid (T12.out.below b3); have K13 := Lib.hid (K12.out.below b3)
  clear b3 i3
  generalize (w12.alloc (.cells #[.int .u8 241, .int .u8 1, .int .u8 0, .int .u8 3, .int .u8 2, .int .u8 97, .int .u8 98, .int .u8 2, .int .u8 10, .int .u8 1] 5)) = w13 at *
  go_wp2_with fail
  have b3 : Below w13.heap.size w13 (w13.alloc (.cells #[.int .i64 5, .int .i64 (-1)] 3)) := (Below.refl _ _).alloc (Nat.le_refl _) _
  have i3 : Ints .i64 (w13.alloc (.cells #[.int .i64 5, .int .i64 (-1)] 3)) (.slice (some ⟨w13.heap.size, 0, none⟩) 2 2) [5, -1] := Ints.new .i64 w13 _ _ _ 2 2 (by rfl) (by rfl) (by omega) (by omega)
  refine (Q7.out v9 _ _ (T13.out.below b3) i3).mono ?_
  rintro e w14 ⟨rfl, d14, rfl⟩
  have B14 := Lib.hid (below_drewN (B13.out.trans (b3.mono B13.out.size)) d14)
  have R14 := Lib.hid ((R13.out.below b3).drewN d14); have K14 := Lib.hid ((K13.out.below b3).drewN d14)
  clear b3 i3 hcv
  generalize (w13.alloc (.cells #[.int .i64 5, .int .i64 (-1)] 3)).drewN d14 = w14 at *
  go_wp2_with fail
  refine (err_any R14.out).mono ?_
  rintro e w15 ⟨rfl, rfl⟩
  go_wp2_with fail
  refine (at_any R14.out).mono ?_
  rintro e w15 ⟨rfl, rfl⟩
  go_wp2_with fail
  refine (bleft_any R14.out (by decide) (by decide)).mono ?_
  rintro e w15 ⟨rfl, d15, rfl⟩
  have hl0 : ((liveB.length : Int) - (10 : Nat)) = 0 := by decide
  rw [hl0]
  go_wp2_with fail
  refine (err_nil _).mono ?_
  rintro e w15 ⟨rfl, rfl⟩
  go_wp2_with fail
  refine (readU_nil _).mono ?_
  rintro e w15 ⟨rfl, rfl⟩
  go_wp2_with fail
  refine (err_any (K14.out.drewN d15)).mono ?_
  rintro e w15 ⟨rfl, rfl⟩
  go_wp2_with fail
  refine (at_any (K14.out.drewN d15)).mono ?_
  rintro e w15 ⟨rfl, rfl⟩
  go_wp2
  go_ret
  exact ⟨rfl, below_drewN B14.out d15⟩
end Go.Proofs.Ytfbodloidogliaa
