/-
  Walks of copselaw01: lists.
-/
import Derived.Test.YtfbodloidogliaaLaws01
namespace Go.Proofs.Ytfbodloidogliaa
open Go.RowKit

theorem sumZ_reverse (l : List Int) : sumZ l.reverse = sumZ l := by
  induction l with
  | nil => rfl
  | cons x l ih => rw [List.reverse_cons, sumZ_snoc, ih]; simp only [sumZ]; omega

theorem dotZ_comm : ∀ (a b : List Int), dotZ a b = dotZ b a := by
  intro a
  induction a with
  | nil => intro b; cases b <;> simp [dotZ]
  | cons x a ih =>
    intro b
    cases b with
    | nil => simp [dotZ]
    | cons y b =>
      have := ih b
      unfold dotZ at *
      simp only [List.zipWith_cons_cons, sumZ, this, Int.mul_comm x y]

set_option maxRecDepth 100000 in
set_option maxHeartbeats 1000000 in
theorem numLists_any (v : Value) (l : List Int) (w : World) (h : ArgInts .i64 w v l) :
    Calls Try.prog 3 #[v] w fun e w' => e = .returned (.bool true) ∧ Below w.heap.size w w' := by
  have hl := args_ok h
  have h' := h
  obtain ⟨a, c, rfl, g1, g2, hA, _⟩ := h
  by_cases hbig : 200 < l.length
  · go_enter Try.func3, Try.ntmps3
    go_wp2_with (go_at_call 15; refine (lives_any _).mono ?_; rintro e w2 ⟨rfl, b2⟩)
    go_ret
    exact ⟨rfl, b2⟩
  · have hlen : l.length ≤ 200 := by omega
    have hi := h'.ints (by omega)
    have HI := Lib.hid hi; clear hi h'
    have HL := Lib.hid hl; clear hl
    have HA := Lib.hid hA; clear hA
    go_enter Try.func3, Try.ntmps3
    go_wp2
    go_loopw [3, 4] (fun b i wr => ∃ k : Nat, k ≤ l.length ∧ i = .int .i64 ((k : Int) - 1) ∧ wr.ownsRow w.heap.size 3 1 b (l.length - k) ((l.drop k).reverse.map (.int .i64)) ∧ Below w.heap.size w wr) (fun _ i _ => (intOf i + 1).toNat)
    case atStart => exact ⟨l.length, Nat.le_refl _, rfl, by simpa using World.ownsRow_nil _ _ _ _, Below.refl _ _⟩
    case round =>
      obtain ⟨k, hk, rfl, hown, hb⟩ := hrel
      by_cases h0 : 0 < k
      · obtain ⟨j, hj⟩ : ∃ j, k = j + 1 := ⟨k - 1, by omega⟩
        subst hj
        have e1 : ((j + 1 : Nat) : Int) - 1 = j := by omega
        rw [e1]
        clear e1
        have hjl : j < l.length := by omega
        obtain ⟨x, hx⟩ := getElem?_ex hjl
        obtain ⟨b1, o1, rfl, hb1, hc1⟩ := HA.out j x hx
        have cx := (hb.cell (p := ⟨b1, o1 + j, none⟩) hb1).trans hc1
        have HX := Lib.hid hx; clear hx hc1
        go_wp2_with (at_builtin; go_must (refine app1 rfl _ _ 22 rfl Try.underlying22 eiInt w.heap.size (by rfl) hown (by rfl) rfl (by simp [Value.oneCell']) (by omega) hb.size ?_))
        intro v' w' hown' hb' _
        go_wp2
        go_roundw
        case rel =>
          refine ⟨j, by omega, rfl, ?_, hb.trans hb'⟩
          have e2 : l.drop j = x :: l.drop (j + 1) := by rw [drop_getD hjl, getD_of HX.out]
          have e3 : l.length - (j + 1) + 1 = l.length - j := by omega
          rw [e2, List.reverse_cons, List.map_append, ← e3]
          simpa using hown'
        case measure => simp [intOf] <;> omega
      · obtain rfl : k = 0 := by omega
        have hown2 : wr.ownsRow w.heap.size 3 1 u3 (l.length) (l.reverse.map (.int .i64)) := by simpa using hown
        have hrev := (Ints.own hown2 (by simp; omega)).2
        clear hown hown2
        have HREV := Lib.hid hrev; clear hrev
        have hs2 : ∀ W : World, Ints .i64 W u3 l.reverse → Calls Try.prog 16 #[u3] W fun e w' => e = .returned (.tuple #[.int .i64 (fitV (sumZ l)), .int .i64 (fitE (sumZ l))]) ∧ Below W.heap.size W w' := fun W h => by
          have := sum_any _ l.reverse W h (fun x hx => HL.out x (by simpa using hx)) (by simp; omega)
          rwa [sumZ_reverse] at this
        have HS2 := Lib.hid hs2; clear hs2
        have e0 : ((0 : Nat) : Int) - 1 = -1 := rfl
        rw [e0]
        clear e0
        go_wp2_with (first | (go_at_call_of 16 (Value.slice a l.length c); refine (sum_any _ l _ (HI.out.below hb) HL.out (by omega)).mono ?_; rintro e w1 ⟨rfl, b1⟩) | (go_at_call_of 16 u3; refine (HS2.out _ (HREV.out.below b1)).mono ?_; rintro e w2 ⟨rfl, b2⟩) | (go_at_call 17; refine (rsum_any _ l _ (((HI.out.below hb).below b1).below b2) HL.out (by omega)).mono ?_; rintro e w3 ⟨rfl, b3⟩) | (go_at_call 15; refine (lives_any _).mono ?_; rintro e w4 ⟨rfl, b4⟩))
        go_ret
        exact ⟨rfl, hb.trans ((b1.trans ((b2.trans ((b3.trans (b4.mono b3.size)).mono b2.size)).mono b1.size)).mono hb.size)⟩

set_option maxRecDepth 100000 in
set_option maxHeartbeats 1000000 in
theorem numDots_any (va : Value) (la : List Int) (vb : Value) (lb : List Int) (w : World) (ha : ArgInts .i64 w va la) (hb : ArgInts .i64 w vb lb) :
    Calls Try.prog 4 #[va, vb] w fun e w' => e = .returned (.bool true) ∧ Below w.heap.size w w' := by
  have hla := args_ok ha
  have hlb := args_ok hb
  have ha' := ha
  have hb' := hb
  obtain ⟨aa, ca, rfl, _, g2, _, _⟩ := ha
  obtain ⟨ab, cb, rfl, _, g2', _, _⟩ := hb
  by_cases hbig : 100 < la.length
  · go_enter Try.func4, Try.ntmps4
    go_wp2_with (go_at_call 15; refine (lives_any _).mono ?_; rintro e w2 ⟨rfl, b2⟩)
    go_ret
    exact ⟨rfl, b2⟩
  · by_cases hbig2 : 100 < lb.length
    · go_enter Try.func4, Try.ntmps4
      go_wp2_with (go_at_call 15; refine (lives_any _).mono ?_; rintro e w2 ⟨rfl, b2⟩)
      go_ret
      exact ⟨rfl, b2⟩
    · have hA := ha'.ints (by omega)
      have hB := hb'.ints (by omega)
      have HA := Lib.hid hA
      have HB := Lib.hid hB
      have d1 := fun W h1 h2 => dot_any (.slice aa la.length ca) (.slice ab lb.length cb) la lb W h1 h2 hla hlb (by omega)
      have d2 := fun W h1 h2 => rdot_any (.slice aa la.length ca) (.slice ab lb.length cb) la lb W h1 h2 hla hlb (by omega)
      have d3 := fun W h1 h2 => dot_any (.slice ab lb.length cb) (.slice aa la.length ca) lb la W h1 h2 hlb hla (by omega)
      obtain ⟨x, hx⟩ : ∃ x, (if la.length = lb.length then fitV (dotZ la lb) else 0) = x := ⟨_, rfl⟩
      obtain ⟨y, hy⟩ : ∃ y, (if la.length = lb.length then fitE (dotZ la lb) else 1) = y := ⟨_, rfl⟩
      have hx' : (if lb.length = la.length then fitV (dotZ lb la) else 0) = x := by
        rw [dotZ_comm lb la, ← hx]
        by_cases h : la.length = lb.length
        · rw [if_pos h, if_pos h.symm]
        · rw [if_neg h, if_neg (fun h' => h h'.symm)]
      have hy' : (if lb.length = la.length then fitE (dotZ lb la) else 1) = y := by
        rw [dotZ_comm lb la, ← hy]
        by_cases h : la.length = lb.length
        · rw [if_pos h, if_pos h.symm]
        · rw [if_neg h, if_neg (fun h' => h h'.symm)]
      simp only [hx, hy] at d1 d2
      simp only [hx', hy'] at d3
      have D1 := Lib.hid d1
      have D2 := Lib.hid d2
      have D3 := Lib.hid d3
      clear d1 d2 d3 hx hy hx' hy' hA hB ha' hb' hla hlb
      go_enter Try.func4, Try.ntmps4
      go_wp2_with fail
      refine (D1.out _ HA.out HB.out).mono ?_
      rintro e w1 ⟨rfl, b1⟩
      go_wp2_with fail
      refine (D2.out _ (HA.out.below b1) (HB.out.below b1)).mono ?_
      rintro e w2 ⟨rfl, b2⟩
      go_wp2_with fail
      refine (D3.out _ ((HB.out.below b1).below b2) ((HA.out.below b1).below b2)).mono ?_
      rintro e w3 ⟨rfl, b3⟩
      go_wp2_with (go_at_call 15; refine (lives_any _).mono ?_; rintro e w4 ⟨rfl, b4⟩)
      go_ret
      exact ⟨rfl, b1.trans ((b2.trans ((b3.trans (b4.mono b3.size)).mono b2.size)).mono b1.size)⟩


theorem numLists_walk (w : World) (v : Value) (l : List Int) (h : ArgInts .i64 w v l) : Calls Try.prog 3 #[v] w fun e w' => e = .returned (.bool true) ∧ Below w.heap.size w w' := numLists_any v l w h
theorem numDots_walk (w : World) (va : Value) (la : List Int) (ha : ArgInts .i64 w va la) (vb : Value) (lb : List Int) (hb : ArgInts .i64 w vb lb) :
    Calls Try.prog 4 #[va, vb] w fun e w' => e = .returned (.bool true) ∧ Below w.heap.size w w' := numDots_any va la vb lb w ha hb
end Go.Proofs.Ytfbodloidogliaa
