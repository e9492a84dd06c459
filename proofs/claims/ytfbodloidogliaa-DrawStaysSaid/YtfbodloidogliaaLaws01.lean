/-
  Walks of copselaw01: what must come of every program, and the statements on numbers.
-/
import Derived.Test.YtfbodloidogliaaRefDot
import Derived.Test.YtfbodloidogliaaFrame
namespace Go.Proofs.Ytfbodloidogliaa
open Go.RowKit

theorem Ints.new (k : IntKind) (W : World) (T : TypeId) (cs : Array Value) (l : List Int) (n c : Nat) (hcs : cs.toList = l.map (Value.int k)) (hn : n = l.length) (hc : n ≤ c) (hc2 : c ≤ 1000000) : Ints k (W.alloc (.cells cs T)) (.slice (some ⟨W.heap.size, 0, none⟩) n c) l := by
  subst hn
  refine ⟨_, _, rfl, hc, by omega, by omega, fun i x hi => ⟨W.heap.size, 0, rfl, by simp, ?_⟩⟩
  have hb := heap_alloc_new W (.cells cs T)
  simp only [World.cell?, hb]
  have : cs.toList[i]? = some (.int k x) := by rw [hcs]; simp [hi]
  simpa using this

theorem Ints.new' (k : IntKind) (W : World) (T : TypeId) (cs : Array Value) (l : List Int) (b n c : Nat) (hb : b = W.heap.size) (hcs : cs.toList = l.map (Value.int k)) (hn : n = l.length) (hc : n ≤ c) (hc2 : c ≤ 1000000) : Ints k (W.alloc (.cells cs T)) (.slice (some ⟨b, 0, none⟩) n c) l := by
  subst hb; exact Ints.new k W T cs l n c hcs hn hc hc2

instance (l : List Int) : Decidable (All64 l) := by unfold All64; infer_instance

set_option maxRecDepth 100000 in
set_option maxHeartbeats 1000000 in
theorem lives_any (w : World) : Calls Try.prog 15 #[] w fun e w' => e = .returned (.bool true) ∧ Below w.heap.size w w' := by
  have h1 : ∀ W : World, Calls Try.prog 45 #[.int .i64 9223372036854775807, .int .i64 1] W fun e w' => e = .returned (.tuple #[.int .i64 0, .int .i64 10]) ∧ W = w' := fun W => by
    have := add_any 9223372036854775807 1 W (by decide) (by decide)
    unfold Fit at this
    rwa [show fitV (9223372036854775807 + 1) = 0 by decide, show fitE (9223372036854775807 + 1) = 10 by decide] at this
  have h2 : ∀ W : World, Calls Try.prog 23 #[.int .i64 (-7), .int .i64 (-2)] W fun e w' => e = .returned (.tuple #[.int .i64 4, .int .i64 1, .int .i64 0]) ∧ ∃ n, w' = W.drewN n := fun W => by
    have := div_any (-7) (-2) W (by decide) (by decide)
    rwa [show divQ (-7) (-2) = 4 by decide, show divR (-7) (-2) = 1 by decide, show divE (-7) (-2) = 0 by decide] at this
  have h3 : ∀ (v : Value) (W : World), Ints .i64 W v [9223372036854775807, 1, -5] → Calls Try.prog 16 #[v] W fun e w' => e = .returned (.tuple #[.int .i64 9223372036854775803, .int .i64 0]) ∧ Below W.heap.size W w' := fun v W hv => by
    have := sum_any v _ W hv (by decide) (by simp)
    rwa [show fitV (sumZ [9223372036854775807, 1, -5]) = 9223372036854775803 by decide, show fitE (sumZ [9223372036854775807, 1, -5]) = 0 by decide] at this
  have h4 : ∀ W : World, Calls Try.prog 50 #[.int .i64 7, .int .i64 2] W fun e w' => e = .returned (.tuple #[.int .i64 4, .int .i64 0]) ∧ W = w' := fun W => by
    have := ceil_any 7 2 W (by decide) (by decide)
    rwa [show ceilV 7 2 = 4 by decide, show ceilE 2 = 0 by decide] at this
  have h5 : ∀ (v v' : Value) (W : World), Ints .i64 W v [2, 3] → Ints .i64 W v' [5, -1] → Calls Try.prog 18 #[v, v'] W fun e w' => e = .returned (.tuple #[.int .i64 7, .int .i64 0]) ∧ Below W.heap.size W w' := fun v v' W hv hv' => by
    have := dot_any v v' _ _ W hv hv' (by decide) (by decide) (by simp)
    rwa [if_pos (by decide), if_pos (by decide), show fitV (dotZ [2, 3] [5, -1]) = 7 by decide, show fitE (dotZ [2, 3] [5, -1]) = 0 by decide] at this
  have h6 : ∀ W : World, Calls Try.prog 52 #[.int .i64 12, .int .i64 (-18)] W fun e w' => e = .returned (.tuple #[.int .i64 6, .int .i64 0]) ∧ ∃ n, w' = W.drewN n := fun W => by
    have := gcd_any 12 (-18) W (by decide) (by decide)
    rwa [show fitV (gcdZ 12 (-18)) = 6 by decide, show fitE (gcdZ 12 (-18)) = 0 by decide] at this
  have h7 : ∀ W : World, Calls Try.prog 20 #[.int .i64 5] W fun e w' => e = .returned (.int .i64 3) ∧ W = w' := fun W => by
    have := log_any 5 W (by decide)
    rwa [show (Lib.bitLen ((5 : Int).toNat - 1) : Int) = 3 by decide] at this
  have h8 : ∀ W : World, Calls Try.prog 22 #[.int .i64 9, .int .i64 1, .int .i64 4] W fun e w' => e = .returned (.int .i64 4) ∧ W = w' := fun W => by
    have := clamp_any 9 1 4 W
    rwa [show clampI 9 1 4 = 4 by decide] at this
  have H1 := Lib.hid h1; have H2 := Lib.hid h2; have H3 := Lib.hid h3; have H4 := Lib.hid h4
  have H5 := Lib.hid h5; have H6 := Lib.hid h6; have H7 := Lib.hid h7; have H8 := Lib.hid h8
  clear h1 h2 h3 h4 h5 h6 h7 h8
  go_enter Try.func15, Try.ntmps15
  go_wp2_with (first | (go_at_call 45; refine (H1.out _).mono ?_; rintro e w' ⟨rfl, rfl⟩) | (go_at_call 23; refine (H2.out _).mono ?_; rintro e w' ⟨rfl, n, rfl⟩) | (go_at_call 16; refine (H3.out _ _ (Ints.new _ _ _ _ _ _ _ (by rfl) (by rfl) (by omega) (by omega))).mono ?_; rintro e w1 ⟨rfl, hb1⟩) | (go_at_call 50; refine (H4.out _).mono ?_; rintro e w' ⟨rfl, rfl⟩))
  refine (H5.out _ _ _ ?_ ?_).mono ?_
  · exact (Ints.new' .i64 _ _ #[.int .i64 2, .int .i64 3] [2, 3] _ 2 2 rfl (by rfl) (by rfl) (by omega) (by omega)).below ((Below.refl _ _).alloc (Nat.le_refl _) _)
  · exact Ints.new' .i64 _ _ #[.int .i64 5, .int .i64 (-1)] [5, -1] _ 2 2 (by simp) (by rfl) (by rfl) (by omega) (by omega)
  rintro e w2 ⟨rfl, hb2⟩
  go_wp2_with (first | (go_at_call 52; refine (H6.out _).mono ?_; rintro e w' ⟨rfl, n, rfl⟩) | (go_at_call 20; refine (H7.out _).mono ?_; rintro e w' ⟨rfl, rfl⟩) | (go_at_call 22; refine (H8.out _).mono ?_; rintro e w' ⟨rfl, rfl⟩))
  go_ret
  have a1 : Below w.heap.size w w1 := Below.trans (by (repeat (first | exact Below.refl _ _ | refine Below.setCell ?_ (by first | omega | (simp; done) | (simp; omega)) _ | refine Below.alloc ?_ (by first | omega | (simp; done) | (simp; omega)) _ | refine Below.drew ?_ | refine below_drewN ?_ _))) (hb1.mono (by simp))
  have hs1 := a1.size
  exact ⟨rfl, below_drewN (a1.trans (Below.trans (by (repeat (first | exact Below.refl _ _ | refine Below.setCell ?_ (by first | omega | (simp; done) | (simp; omega)) _ | refine Below.alloc ?_ (by first | omega | (simp; done) | (simp; omega)) _ | refine Below.drew ?_ | refine below_drewN ?_ _))) (hb2.mono (by simp; omega)))) _⟩

theorem wf_ok {a : Int} (h : (Lit.int .i64 a).wf = true) : Ok64 a := wf_i64 h
theorem args_ok {w : World} {v : Value} {l : List Int} (h : ArgInts .i64 w v l) : All64 l := by
  obtain ⟨_, _, _, _, _, _, h⟩ := h
  exact fun x hx => wf_ok (h x hx)

set_option maxRecDepth 100000 in
set_option maxHeartbeats 1000000 in
theorem numTwo_walk (a : Int) (ha : (Lit.int .i64 a).wf = true) (b : Int) (hb : (Lit.int .i64 b).wf = true) (w : World) :
    Calls Try.prog 11 #[.int .i64 a, .int .i64 b] w fun e w' => e = .returned (.bool true) ∧ Below w.heap.size w w' := by
  have h1 := wf_ok ha
  have h2 := wf_ok hb
  clear ha hb
  go_enter Try.func11, Try.ntmps11
  go_wp2_with fail
  refine (add_any a b _ h1 h2).mono ?_
  rintro e w1 ⟨rfl, rfl⟩
  go_wp2_with fail
  refine (radd_any a b _ h1 h2).mono ?_
  rintro e w1 ⟨rfl, b1⟩
  go_wp2_with fail
  refine (lives_any _).mono ?_
  rintro e w2 ⟨rfl, b2⟩
  go_wp2_with fail
  refine (sub_any a b _ h1 h2).mono ?_
  rintro e w3 ⟨rfl, rfl⟩
  go_wp2_with fail
  refine (rsub_any a b _ h1 h2).mono ?_
  rintro e w3 ⟨rfl, b3⟩
  go_wp2_with fail
  refine (mul_any a b _ h1 h2).mono ?_
  rintro e w4 ⟨rfl, rfl⟩
  go_wp2_with fail
  refine (rmul_any a b _ h1 h2).mono ?_
  rintro e w4 ⟨rfl, b4⟩
  go_wp2_with fail
  refine (ceil_any a b _ h1 h2).mono ?_
  rintro e w5 ⟨rfl, rfl⟩
  go_wp2_with fail
  refine (rceil_any a b _ h1 h2).mono ?_
  rintro e w5 ⟨rfl, b5⟩
  go_wp2_with fail
  refine (gcd_any a b _ h1 h2).mono ?_
  rintro e w6 ⟨rfl, n, rfl⟩
  go_wp2_with fail
  refine (rgcd_any a b _ h1 h2).mono ?_
  rintro e w6 ⟨rfl, b6⟩
  go_wp2
  go_ret
  exact ⟨rfl, b1.trans ((b2.trans ((b3.trans ((b4.trans ((b5.trans ((Below.trans (below_drewN (Below.refl _ _) n) b6).mono b5.size)).mono b4.size)).mono b3.size)).mono b2.size)).mono b1.size)⟩
end Go.Proofs.Ytfbodloidogliaa
