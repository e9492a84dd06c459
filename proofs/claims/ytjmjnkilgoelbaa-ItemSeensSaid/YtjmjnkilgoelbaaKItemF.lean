/-
  ItemF: Walks of the reference's names, RightAsk and Ask.
-/
import Derived.Test.YtjmjnkilgoelbaaJ1a
namespace Go.Proofs.Ytjmjnkilgoelbaa
open Go.RowKit

set_option maxRecDepth 100000 in
set_option maxHeartbeats 4000000 in
theorem rnames_any (k : Int) (w : World) : Calls Try.prog 102 #[.int .i64 k] w fun e w' => e = .returned (.tuple #[.bool (decide (k = 1)), .bool (decide (k = 1 ∨ k = 2 ∨ k = 7)), .bool (decide (k = 3 ∨ k = 4)), .bool (decide (k = 3))]) ∧ w = w' := by
  by_cases h : 1 ≤ k ∧ k ≤ 7
  · obtain rfl | rfl | rfl | rfl | rfl | rfl | rfl : k = 1 ∨ k = 2 ∨ k = 3 ∨ k = 4 ∨ k = 5 ∨ k = 6 ∨ k = 7 := by omega
    all_goals
      clear h
      go_enter Try.func102, Try.ntmps102
      go_wp2_with fail
      exact bodyPost_ret (by simp [results, Try.results102, go_sem, *]) rfl ⟨rfl, rfl⟩
  · rw [decide_eq_false (show ¬ k = 1 by omega), decide_eq_false (show ¬ (k = 1 ∨ k = 2 ∨ k = 7) by omega), decide_eq_false (show ¬ (k = 3 ∨ k = 4) by omega), decide_eq_false (show ¬ k = 3 by omega)]
    obtain ⟨h1, h2, h3, h4, h5⟩ : (k == 1) = false ∧ (k == 2) = false ∧ (k == 3) = false ∧ (k == 4) = false ∧ (k == 7) = false := by simp; omega
    clear h
    go_enter Try.func102, Try.ntmps102
    go_wp2_with fail
    exact bodyPost_ret (by simp [results, Try.results102, go_sem, *]) rfl ⟨rfl, rfl⟩

def inX (z : Int) : Prop := -2147483648 ≤ z ∧ z ≤ 2147483647

theorem xOk_of {x : List Int} (h : x.length ≤ 8) (hx : ∀ z ∈ x, inX z) : xOk x = true := by
  unfold xOk
  rw [decide_eq_true h, Bool.true_and, List.all_eq_true]
  intro z hz
  exact decide_eq_true (hx z hz)

theorem xOk_bad {x : List Int} {z : Int} (hz : z ∈ x) (hx : ¬ inX z) : xOk x = false := by
  unfold xOk
  rw [Bool.and_eq_false_iff]
  right
  rw [List.all_eq_false]
  exact ⟨z, hz, by rw [decide_eq_true_eq]; exact hx⟩

set_option maxRecDepth 100000 in
set_option maxHeartbeats 16000000 in
theorem rrightAsk_any (k id n m : Int) (vx : Value) (x : List Int) (w : World) (h : Ints .i64 w vx x) :
    Calls Try.prog 38 #[.agg #[.int .i64 k, .int .i64 id, vx, .int .i64 n, .int .i64 m]] w fun e w' => e = .returned (.bool (askB k id n m x)) ∧ Below w.heap.size w w' := by
  by_cases hA : (1 ≤ k ∧ k ≤ 7) ∧ (x.length : Int) ≤ 8 ∧ (0 ≤ id ∧ id ≤ 1099511627776) ∧ (0 ≤ n ∧ n ≤ 1099511627776) ∧ (0 ≤ m ∧ m ≤ 1099511627776)
  · have HQ := Lib.hid (show xOk x = true → askB k id n m x = (decide (k = 1 ∨ id = 0) && decide (k = 1 ∨ k = 2 ∨ k = 7 ∨ x.length = 0) && decide (k = 3 ∨ k = 4 ∨ n = 0) && decide (k = 3 ∨ m = 0)) by
      intro hx
      unfold askB fewB
      rw [hx, decide_eq_true hA.1, decide_eq_true hA.2.2.1, decide_eq_true hA.2.2.2.1, decide_eq_true hA.2.2.2.2]
      simp)
    have HF := Lib.hid (show xOk x = false → askB k id n m x = false by
      intro hx
      unfold askB
      rw [hx]
      simp)
    obtain ⟨⟨a1, a2⟩, a3, ⟨a4, a5⟩, ⟨a6, a7⟩, a8, a9⟩ := hA
    obtain ⟨R, hR⟩ : ∃ R, askB k id n m x = R := ⟨_, rfl⟩
    rw [hR] at HQ HF ⊢
    clear hR
    have HX := Lib.hid h
    obtain ⟨xa, xc, rfl, q1, q2, q3, hx⟩ := h
    have HXC := Lib.hid hx
    clear hx
    obtain ⟨len, hlen⟩ : ∃ len, x.length = len := ⟨_, rfl⟩
    rw [hlen] at q1 q3 a3 HQ ⊢
    have HLE := Lib.hid hlen
    clear hlen
    go_enter Try.func38, Try.ntmps38
    go_wp2_with fail
    go_loopw [3] (fun i wr => ∃ j : Nat, i = .int .i64 j ∧ j ≤ len ∧ (∀ z ∈ x.take j, inX z) ∧ wr = w.alloc (.cells #[.int .i64 k, .int .i64 id, .slice xa len xc, .int .i64 n, .int .i64 m] 63)) (fun i _ => len - (intOf i).toNat)
    case atStart => refine ⟨0, rfl, Nat.zero_le _, ?_, ?_⟩ <;> simp
    case round =>
      obtain ⟨j, rfl, hj, hin, rfl⟩ := hrel
      have HIN := Lib.hid hin
      clear hin
      by_cases hlt : j < len
      · obtain ⟨z, hz⟩ := getElem?_ex (l := x) (k := j) (by rw [HLE.out]; exact hlt)
        obtain ⟨b, o, rfl, hbw, c0⟩ := HXC.out j z hz
        have c1 := (show Below w.heap.size w (w.alloc (.cells #[.int .i64 k, .int .i64 id, .slice (some ⟨b, o, none⟩) len xc, .int .i64 n, .int .i64 m] 63)) from by (repeat (first | with_reducible exact Below.refl _ _ | with_reducible refine Bs ?_ | with_reducible refine Ba ?_ | with_reducible refine Bd ?_ | with_reducible refine Bn ?_))).cell (p := ⟨b, o + j, none⟩) hbw
        rw [c0] at c1
        have HZ := Lib.hid hz
        have hlt2 : (j : Int) < (len : Int) := by omega
        clear hz c0
        by_cases hr : inX z
        · obtain ⟨z1, z2⟩ := hr
          have HZ2 := Lib.hid (show inX z from ⟨z1, z2⟩)
          go_wp2_with fail
          go_roundw
          case rel =>
            refine ⟨j + 1, by go_num, by omega, ?_, by first | rfl | trivial⟩
            rw [take_snoc' HZ.out]
            intro y hy
            rcases List.mem_append.1 hy with h | h
            · exact HIN.out y h
            · simp at h; subst h; exact HZ2.out
          case measure => simp [intOf] <;> omega
        · have HR := Lib.hid (HF.out (xOk_bad (List.mem_of_getElem? HZ.out) hr))
          have hr2 : z < -2147483648 ∨ 2147483647 < z := by unfold inX at hr; omega
          clear hr
          rcases hr2 with hr2 | hr2
          · go_wp2_with fail
            go_ret
            exact ⟨ret_bool HR.out.symm, by (repeat (first | with_reducible exact Below.refl _ _ | with_reducible refine Bs ?_ | with_reducible refine Ba ?_ | with_reducible refine Bd ?_ | with_reducible refine Bn ?_))⟩
          · have hr3 : ¬ z < -2147483648 := by omega
            go_wp2_with fail
            go_ret
            exact ⟨ret_bool HR.out.symm, by (repeat (first | with_reducible exact Below.refl _ _ | with_reducible refine Bs ?_ | with_reducible refine Ba ?_ | with_reducible refine Bd ?_ | with_reducible refine Bn ?_))⟩
      · obtain rfl : j = len := by omega
        have HR := Lib.hid (HQ.out (xOk_of (by rw [HLE.out]; omega) (by intro z hz; exact HIN.out z (by rw [List.take_of_length_le (by rw [HLE.out]; exact Nat.le_refl _)]; exact hz))))
        clear HQ HF HIN
        by_cases hl : j = 0
        · subst hl
          obtain rfl | rfl | rfl | rfl | rfl | rfl | rfl : k = 1 ∨ k = 2 ∨ k = 3 ∨ k = 4 ∨ k = 5 ∨ k = 6 ∨ k = 7 := by omega
          all_goals
            go_wp2_with fail
            (with_reducible refine (rnames_any _ _).mono ?_)
            rintro e w1 ⟨rfl, rfl⟩
            go_wp2_with fail
            all_goals
              go_ret
              refine ⟨ret_bool ?_, by (repeat (first | with_reducible exact Below.refl _ _ | with_reducible refine Bs ?_ | with_reducible refine Ba ?_ | with_reducible refine Bd ?_ | with_reducible refine Bn ?_))⟩
              rw [HR.out]
              first | (simp [*]; done) | (simp [*]; rfl)
        · have hl2 : ((j : Int) == 0) = false := by simp; omega
          obtain rfl | rfl | rfl | rfl | rfl | rfl | rfl : k = 1 ∨ k = 2 ∨ k = 3 ∨ k = 4 ∨ k = 5 ∨ k = 6 ∨ k = 7 := by omega
          all_goals
            go_wp2_with fail
            (with_reducible refine (rnames_any _ _).mono ?_)
            rintro e w1 ⟨rfl, rfl⟩
            go_wp2_with fail
            all_goals
              go_ret
              refine ⟨ret_bool ?_, by (repeat (first | with_reducible exact Below.refl _ _ | with_reducible refine Bs ?_ | with_reducible refine Ba ?_ | with_reducible refine Bd ?_ | with_reducible refine Bn ?_))⟩
              rw [HR.out]
              first | (simp [*]; done) | (simp [*]; rfl)
  · have HR := Lib.hid (show askB k id n m x = false by
      cases hq : askB k id n m x with
      | false => rfl
      | true =>
        obtain ⟨b1, b2, b3, b4, b5, _⟩ := askB_iff hq
        exact absurd ⟨b1, by omega, b2, b3, b4⟩ hA)
    obtain ⟨xa, xc, rfl⟩ := h.shape
    generalize askB k id n m x = R at *
    generalize x.length = len at *
    have hA2 : k < 1 ∨ 7 < k ∨ (8 : Int) < len ∨ id < 0 ∨ 1099511627776 < id ∨ n < 0 ∨ 1099511627776 < n ∨ m < 0 ∨ 1099511627776 < m := by omega
    clear hA h
    have HA := Lib.hid hA2
    clear hA2
    go_enter Try.func38, Try.ntmps38
    go_wp2_with fail
    all_goals first
      | (go_ret; exact ⟨ret_bool HR.out.symm, by (repeat (first | with_reducible exact Below.refl _ _ | with_reducible refine Bs ?_ | with_reducible refine Ba ?_ | with_reducible refine Bd ?_ | with_reducible refine Bn ?_))⟩)
      | (exfalso; have := HA.out; omega)


/-- A row of the call's own, once more. -/
theorem appB {P : Program} {ops : Array Oper} {rest : List Oper} {o : Oper} {a : Act} {Q : Exit → Act → World → Prop} (hgd : o.guard = none) (s x : Operand) (t : TypeId)
    (ho : o.op = .call { callee := .builtin .append, args := #[s, x], argTypes := #[t, t] })
    (ht : P.underlying t = some (.slice 5)) (hE : EI P 5 (.int .u8 0) 1 1)
    (base : Nat) {v : Value} {l : List Int} {W : World} {vx : Value} {lx : List Int} (hs : a.eval s = v) (hown : OwnB W base v l)
    (hx : a.eval x = vx) (hl : Ints .u8 W vx lx) (hbytes : l.length + lx.length ≤ 1000000) (hbase : base ≤ W.heap.size)
    (h : ∀ v' w', OwnB w' base v' (l ++ lx) → Below base W w' → wpList P ops Q rest (a.put o.dst v') w') :
    wpList P ops Q (o :: rest) a W := by
  refine appInts hgd s x t ho ht hE base hs hown hx hl (by omega) hbase fun v' w' h1 h2 _ => h v' w' ?_ h2
  unfold OwnB
  rw [List.map_append, List.length_append]
  exact h1

theorem rU_lit (z : Int) (n : Nat) (hz : z = (n : Int)) (w : World) (hn : n ≤ 1000000) :
    Calls Try.prog 95 #[.int .u64 z] w fun e w' => ∃ v', e = .returned v' ∧ OwnB w' w.heap.size v' (putsU n) ∧ Below w.heap.size w w' := by
  subst hz
  exact rU_any n w (by omega)

set_option maxRecDepth 100000 in
set_option maxHeartbeats 8000000 in
theorem rask_any (k id n m : Int) (vx : Value) (x : List Int) (w : World) (hx : Ints .i64 w vx x) :
    Calls Try.prog 36 #[.agg #[.int .i64 k, .int .i64 id, vx, .int .i64 n, .int .i64 m]] w fun e w' => ∃ v', e = .returned v' ∧ Ints .u8 w' v' (askBytes k id n m x) ∧ Below w.heap.size w w' := by
  have HX := Lib.hid hx
  obtain ⟨xa, xc, rfl⟩ := hx.shape
  have HI := Lib.hid (fun W (hW : Ints .i64 W (.slice xa x.length xc) x) => rrightAsk_any k id n m _ x W hW)
  clear hx
  cases hs : askB k id n m x with
  | false =>
    have HSB := Lib.hid (show askBytes k id n m x = [] by unfold askBytes; rw [hs]; rfl)
    rw [hs] at HI
    clear hs
    go_enter Try.func36, Try.ntmps36
    go_wp2_with fail
    (with_reducible refine (HI.out _ (HX.out.below (by (repeat (first | with_reducible exact Below.refl _ _ | with_reducible refine Bs ?_ | with_reducible refine Ba ?_ | with_reducible refine Bd ?_ | with_reducible refine Bn ?_))))).mono ?_); rintro e w1 ⟨rfl, b1⟩; have s1 : w.heap.size + 1 ≤ w1.heap.size := sz b1; have B1 := Lib.hid (Bc (B := w.heap.size) (a := w) (by (repeat (first | with_reducible exact Below.refl _ _ | with_reducible refine Bs ?_ | with_reducible refine Ba ?_ | with_reducible refine Bd ?_ | with_reducible refine Bn ?_))) b1); clear b1
    go_wp2_with fail
    go_ret
    exact ⟨_, rfl, by rw [HSB.out]; exact ints_nil _ _ _ _ (by omega), B1.out⟩
  | true =>
    obtain ⟨hk, ⟨i1, i2⟩, ⟨n1, n2⟩, ⟨m1, m2⟩, hl, h64⟩ := askB_iff hs
    obtain ⟨I, rfl⟩ : ∃ I : Nat, id = (I : Int) := ⟨id.toNat, by omega⟩
    obtain ⟨N, rfl⟩ : ∃ N : Nat, n = (N : Int) := ⟨n.toNat, by omega⟩
    obtain ⟨M, rfl⟩ : ∃ M : Nat, m = (M : Int) := ⟨m.toNat, by omega⟩
    have i3 : (I : Int) ≤ 18446744073709551615 := by omega
    have n3 : (N : Int) ≤ 18446744073709551615 := by omega
    have m3 : (M : Int) ≤ 18446744073709551615 := by omega
    have HL := Lib.hid hl
    have H64 := Lib.hid h64
    rw [hs] at HI
    clear hl h64 i1 i2 n1 n2 m1 m2
    have HK := Lib.hid hs
    clear hs
    obtain rfl | rfl | rfl | rfl | rfl | rfl | rfl : k = 1 ∨ k = 2 ∨ k = 3 ∨ k = 4 ∨ k = 5 ∨ k = 6 ∨ k = 7 := by omega
    · have HSB := Lib.hid (show askBytes 1 I N M x = putsU 1 ++ putsU I ++ putsInts x by unfold askBytes; rw [if_pos HK.out]; simp)
      have HN := Lib.hid (fun W => rnames_any 1 W)
      rw [show decide ((1 : Int) = 1) = true from rfl, show decide ((1 : Int) = 1 ∨ (1 : Int) = 2 ∨ (1 : Int) = 7) = true from rfl, show decide ((1 : Int) = 3 ∨ (1 : Int) = 4) = false from rfl, show decide ((1 : Int) = 3) = false from rfl] at HN
      clear hk HK
      go_enter Try.func36, Try.ntmps36
      go_wp2_with fail
      (with_reducible refine (HI.out _ (HX.out.below (by (repeat (first | with_reducible exact Below.refl _ _ | with_reducible refine Bs ?_ | with_reducible refine Ba ?_ | with_reducible refine Bd ?_ | with_reducible refine Bn ?_))))).mono ?_); rintro e w1 ⟨rfl, b1⟩; have s1 : w.heap.size + 1 ≤ w1.heap.size := sz b1; have B1 := Lib.hid (Bc (B := w.heap.size) (a := w) (by (repeat (first | with_reducible exact Below.refl _ _ | with_reducible refine Bs ?_ | with_reducible refine Ba ?_ | with_reducible refine Bd ?_ | with_reducible refine Bn ?_))) b1); obtain ⟨c1_0, c1_1, c1_2, c1_3, c1_4⟩ := k5 (w.heap.size) (.int .i64 1) (.int .i64 I) (.slice xa x.length xc) (.int .i64 N) (.int .i64 M) b1 (by and_intros <;> go_simp); obtain ⟨l1_0, n1_0, m1_0⟩ := lnm (show w.heap.size < w1.heap.size by omega); clear b1
      go_wp2_with fail
      (with_reducible refine (rU_lit 1 1 rfl _ (by omega)).mono ?_); rintro e w2 ⟨v2, rfl, o2, b2⟩; have s2 : w1.heap.size ≤ w2.heap.size := sz b2; have B2 := Lib.hid (Bc (B := w.heap.size) (a := w) (by (repeat (first | with_reducible exact Below.refl _ _ | with_reducible refine Bs ?_ | with_reducible refine Ba ?_ | with_reducible refine Bd ?_ | with_reducible refine Bn ?_ | with_reducible refine Bt B1.out ?_))) b2); obtain ⟨c2_0, c2_1, c2_2, c2_3, c2_4⟩ := k5 (w.heap.size) (.int .i64 1) (.int .i64 I) (.slice xa x.length xc) (.int .i64 N) (.int .i64 M) b2 (by and_intros <;> go_simp); obtain ⟨l2_0, n2_0, m2_0⟩ := lnm (show w.heap.size < w2.heap.size by omega); clear b2
      have O2 := Lib.hid o2; clear o2
      have G2 := Lib.hid (show (putsU 1).length ≤ 81 by have := putsU_len (n := 1); omega)
      obtain ⟨l2, hl2⟩ : ∃ l, putsU 1 = l := ⟨_, rfl⟩
      rw [hl2] at O2 G2; have E2 := Lib.hid hl2.symm; clear hl2
      go_wp2_with fail
      (with_reducible refine (HN.out _).mono ?_)
      rintro e w9 ⟨rfl, rfl⟩
      go_wp2_with fail
      (with_reducible refine (rU_any I _ (by omega)).mono ?_); rintro e w3 ⟨v3, rfl, o3, b3⟩; have s3 : w2.heap.size ≤ w3.heap.size := sz b3; have B3 := Lib.hid (Bc (B := w.heap.size) (a := w) (by (repeat (first | with_reducible exact Below.refl _ _ | with_reducible refine Bs ?_ | with_reducible refine Ba ?_ | with_reducible refine Bd ?_ | with_reducible refine Bn ?_ | with_reducible refine Bt B2.out ?_))) b3); obtain ⟨c3_0, c3_1, c3_2, c3_3, c3_4⟩ := k5 (w.heap.size) (.int .i64 1) (.int .i64 I) (.slice xa x.length xc) (.int .i64 N) (.int .i64 M) b3 (by and_intros <;> go_simp); obtain ⟨l3_0, n3_0, m3_0⟩ := lnm (show w.heap.size < w3.heap.size by omega); have O2 := Lib.hid ((O2.out.below (by (repeat (first | with_reducible exact Below.refl _ _ | with_reducible refine Bs ?_ | with_reducible refine Ba ?_ | with_reducible refine Bd ?_ | with_reducible refine Bn ?_)))).below b3); clear b3
      have GX3 := Lib.hid (show (putsU I).length ≤ 81 by have := putsU_len (n := I); omega)
      have OX3 := Lib.hid (o3.ints' (by have := GX3.out; omega))
      clear o3
      go_wp2_with (at_builtin; go_must (refine appB rfl _ _ 48 rfl Try.underlying48 eiU8 w1.heap.size (by rfl) O2.out (by rfl) OX3.out (by have := G2.out; have := GX3.out; omega) (by omega) ?_))
      intro v4 w4 o4 b4
      obtain ⟨l4, e4⟩ : ∃ l, l = l2 ++ putsU I := ⟨_, rfl⟩
      rw [← e4] at o4
      have s4 : w3.heap.size ≤ w4.heap.size := b4.size
      have B4 := Lib.hid (show Below w.heap.size w w4 from below_tr B3.out (b4.mono (by omega)))
      have c4_0 : w4.cell? ⟨w.heap.size, 0, none⟩ = some (.int .i64 1) := (b4.cell (by first | omega | (simp; omega))).trans (by go_simp)
      have c4_1 : w4.cell? ⟨w.heap.size, 1, none⟩ = some (.int .i64 I) := (b4.cell (by first | omega | (simp; omega))).trans (by go_simp)
      have c4_2 : w4.cell? ⟨w.heap.size, 2, none⟩ = some (.slice xa x.length xc) := (b4.cell (by first | omega | (simp; omega))).trans (by go_simp)
      have c4_3 : w4.cell? ⟨w.heap.size, 3, none⟩ = some (.int .i64 N) := (b4.cell (by first | omega | (simp; omega))).trans (by go_simp)
      have c4_4 : w4.cell? ⟨w.heap.size, 4, none⟩ = some (.int .i64 M) := (b4.cell (by first | omega | (simp; omega))).trans (by go_simp)
      have O4 := Lib.hid o4; have E4 := Lib.hid e4; have G4 := Lib.hid (show l4.length ≤ 162 by rw [e4, List.length_append]; have := G2.out; have := GX3.out; omega)
      clear o4 e4 b4
      go_wp2_with fail
      (with_reducible refine (rInts_any _ x _ (HX.out.below (by (repeat (first | with_reducible exact Below.refl _ _ | with_reducible refine Bs ?_ | with_reducible refine Ba ?_ | with_reducible refine Bd ?_ | with_reducible refine Bn ?_ | with_reducible refine Bt B4.out ?_)))) H64.out (by have := HL.out; omega)).mono ?_); rintro e w5 ⟨v5, rfl, o5, b5⟩; have s5 : w4.heap.size ≤ w5.heap.size := sz b5; have B5 := Lib.hid (Bc (B := w.heap.size) (a := w) (by (repeat (first | with_reducible exact Below.refl _ _ | with_reducible refine Bs ?_ | with_reducible refine Ba ?_ | with_reducible refine Bd ?_ | with_reducible refine Bn ?_ | with_reducible refine Bt B4.out ?_))) b5); obtain ⟨c5_0, c5_1, c5_2, c5_3, c5_4⟩ := k5 (w.heap.size) (.int .i64 1) (.int .i64 I) (.slice xa x.length xc) (.int .i64 N) (.int .i64 M) b5 (by and_intros <;> go_simp); obtain ⟨l5_0, n5_0, m5_0⟩ := lnm (show w.heap.size < w5.heap.size by omega); have O4 := Lib.hid ((O4.out.below (by (repeat (first | with_reducible exact Below.refl _ _ | with_reducible refine Bs ?_ | with_reducible refine Ba ?_ | with_reducible refine Bd ?_ | with_reducible refine Bn ?_)))).below b5); clear b5
      have GX5 := Lib.hid (show (putsInts x).length ≤ 81 by have h1 := putsIs_len x; have h2 := putsU_len (n := x.length); have h3 := HL.out; unfold putsInts; rw [List.length_append]; omega)
      have OX5 := Lib.hid (o5.ints' (by have := GX5.out; omega))
      clear o5
      go_wp2_with (at_builtin; go_must (refine appB rfl _ _ 48 rfl Try.underlying48 eiU8 w1.heap.size (by rfl) O4.out (by rfl) OX5.out (by have := G4.out; have := GX5.out; omega) (by omega) ?_))
      intro v6 w6 o6 b6
      obtain ⟨l6, e6⟩ : ∃ l, l = l4 ++ putsInts x := ⟨_, rfl⟩
      rw [← e6] at o6
      have s6 : w5.heap.size ≤ w6.heap.size := b6.size
      have B6 := Lib.hid (show Below w.heap.size w w6 from below_tr B5.out (b6.mono (by omega)))
      have c6_0 : w6.cell? ⟨w.heap.size, 0, none⟩ = some (.int .i64 1) := (b6.cell (by first | omega | (simp; omega))).trans (by go_simp)
      have c6_1 : w6.cell? ⟨w.heap.size, 1, none⟩ = some (.int .i64 I) := (b6.cell (by first | omega | (simp; omega))).trans (by go_simp)
      have c6_2 : w6.cell? ⟨w.heap.size, 2, none⟩ = some (.slice xa x.length xc) := (b6.cell (by first | omega | (simp; omega))).trans (by go_simp)
      have c6_3 : w6.cell? ⟨w.heap.size, 3, none⟩ = some (.int .i64 N) := (b6.cell (by first | omega | (simp; omega))).trans (by go_simp)
      have c6_4 : w6.cell? ⟨w.heap.size, 4, none⟩ = some (.int .i64 M) := (b6.cell (by first | omega | (simp; omega))).trans (by go_simp)
      have O6 := Lib.hid o6; have E6 := Lib.hid e6; have G6 := Lib.hid (show l6.length ≤ 243 by rw [e6, List.length_append]; have := G4.out; have := GX5.out; omega)
      clear o6 e6 b6
      go_wp2_with fail
      go_ret
      have r := O6.out.ints' (by have := G6.out; omega)
      rw [E6.out, E4.out, E2.out] at r
      have r2 : Ints .u8 w6 v6 (askBytes 1 I N M x) := by (rw [HSB.out]; simpa only [List.append_assoc] using r)
      exact ⟨_, rfl, r2, B6.out⟩
    · have HSB := Lib.hid (show askBytes 2 I N M x = putsU 2 ++ putsInts x by unfold askBytes; rw [if_pos HK.out]; simp)
      have HN := Lib.hid (fun W => rnames_any 2 W)
      rw [show decide ((2 : Int) = 1) = false from rfl, show decide ((2 : Int) = 1 ∨ (2 : Int) = 2 ∨ (2 : Int) = 7) = true from rfl, show decide ((2 : Int) = 3 ∨ (2 : Int) = 4) = false from rfl, show decide ((2 : Int) = 3) = false from rfl] at HN
      clear hk HK
      go_enter Try.func36, Try.ntmps36
      go_wp2_with fail
      (with_reducible refine (HI.out _ (HX.out.below (by (repeat (first | with_reducible exact Below.refl _ _ | with_reducible refine Bs ?_ | with_reducible refine Ba ?_ | with_reducible refine Bd ?_ | with_reducible refine Bn ?_))))).mono ?_); rintro e w1 ⟨rfl, b1⟩; have s1 : w.heap.size + 1 ≤ w1.heap.size := sz b1; have B1 := Lib.hid (Bc (B := w.heap.size) (a := w) (by (repeat (first | with_reducible exact Below.refl _ _ | with_reducible refine Bs ?_ | with_reducible refine Ba ?_ | with_reducible refine Bd ?_ | with_reducible refine Bn ?_))) b1); obtain ⟨c1_0, c1_1, c1_2, c1_3, c1_4⟩ := k5 (w.heap.size) (.int .i64 2) (.int .i64 I) (.slice xa x.length xc) (.int .i64 N) (.int .i64 M) b1 (by and_intros <;> go_simp); obtain ⟨l1_0, n1_0, m1_0⟩ := lnm (show w.heap.size < w1.heap.size by omega); clear b1
      go_wp2_with fail
      (with_reducible refine (rU_lit 2 2 rfl _ (by omega)).mono ?_); rintro e w2 ⟨v2, rfl, o2, b2⟩; have s2 : w1.heap.size ≤ w2.heap.size := sz b2; have B2 := Lib.hid (Bc (B := w.heap.size) (a := w) (by (repeat (first | with_reducible exact Below.refl _ _ | with_reducible refine Bs ?_ | with_reducible refine Ba ?_ | with_reducible refine Bd ?_ | with_reducible refine Bn ?_ | with_reducible refine Bt B1.out ?_))) b2); obtain ⟨c2_0, c2_1, c2_2, c2_3, c2_4⟩ := k5 (w.heap.size) (.int .i64 2) (.int .i64 I) (.slice xa x.length xc) (.int .i64 N) (.int .i64 M) b2 (by and_intros <;> go_simp); obtain ⟨l2_0, n2_0, m2_0⟩ := lnm (show w.heap.size < w2.heap.size by omega); clear b2
      have O2 := Lib.hid o2; clear o2
      have G2 := Lib.hid (show (putsU 2).length ≤ 81 by have := putsU_len (n := 2); omega)
      obtain ⟨l2, hl2⟩ : ∃ l, putsU 2 = l := ⟨_, rfl⟩
      rw [hl2] at O2 G2; have E2 := Lib.hid hl2.symm; clear hl2
      go_wp2_with fail
      (with_reducible refine (HN.out _).mono ?_)
      rintro e w9 ⟨rfl, rfl⟩
      go_wp2_with fail
      (with_reducible refine (rInts_any _ x _ (HX.out.below (by (repeat (first | with_reducible exact Below.refl _ _ | with_reducible refine Bs ?_ | with_reducible refine Ba ?_ | with_reducible refine Bd ?_ | with_reducible refine Bn ?_ | with_reducible refine Bt B2.out ?_)))) H64.out (by have := HL.out; omega)).mono ?_); rintro e w3 ⟨v3, rfl, o3, b3⟩; have s3 : w2.heap.size ≤ w3.heap.size := sz b3; have B3 := Lib.hid (Bc (B := w.heap.size) (a := w) (by (repeat (first | with_reducible exact Below.refl _ _ | with_reducible refine Bs ?_ | with_reducible refine Ba ?_ | with_reducible refine Bd ?_ | with_reducible refine Bn ?_ | with_reducible refine Bt B2.out ?_))) b3); obtain ⟨c3_0, c3_1, c3_2, c3_3, c3_4⟩ := k5 (w.heap.size) (.int .i64 2) (.int .i64 I) (.slice xa x.length xc) (.int .i64 N) (.int .i64 M) b3 (by and_intros <;> go_simp); obtain ⟨l3_0, n3_0, m3_0⟩ := lnm (show w.heap.size < w3.heap.size by omega); have O2 := Lib.hid ((O2.out.below (by (repeat (first | with_reducible exact Below.refl _ _ | with_reducible refine Bs ?_ | with_reducible refine Ba ?_ | with_reducible refine Bd ?_ | with_reducible refine Bn ?_)))).below b3); clear b3
      have GX3 := Lib.hid (show (putsInts x).length ≤ 81 by have h1 := putsIs_len x; have h2 := putsU_len (n := x.length); have h3 := HL.out; unfold putsInts; rw [List.length_append]; omega)
      have OX3 := Lib.hid (o3.ints' (by have := GX3.out; omega))
      clear o3
      go_wp2_with (at_builtin; go_must (refine appB rfl _ _ 48 rfl Try.underlying48 eiU8 w1.heap.size (by rfl) O2.out (by rfl) OX3.out (by have := G2.out; have := GX3.out; omega) (by omega) ?_))
      intro v4 w4 o4 b4
      obtain ⟨l4, e4⟩ : ∃ l, l = l2 ++ putsInts x := ⟨_, rfl⟩
      rw [← e4] at o4
      have s4 : w3.heap.size ≤ w4.heap.size := b4.size
      have B4 := Lib.hid (show Below w.heap.size w w4 from below_tr B3.out (b4.mono (by omega)))
      have c4_0 : w4.cell? ⟨w.heap.size, 0, none⟩ = some (.int .i64 2) := (b4.cell (by first | omega | (simp; omega))).trans (by go_simp)
      have c4_1 : w4.cell? ⟨w.heap.size, 1, none⟩ = some (.int .i64 I) := (b4.cell (by first | omega | (simp; omega))).trans (by go_simp)
      have c4_2 : w4.cell? ⟨w.heap.size, 2, none⟩ = some (.slice xa x.length xc) := (b4.cell (by first | omega | (simp; omega))).trans (by go_simp)
      have c4_3 : w4.cell? ⟨w.heap.size, 3, none⟩ = some (.int .i64 N) := (b4.cell (by first | omega | (simp; omega))).trans (by go_simp)
      have c4_4 : w4.cell? ⟨w.heap.size, 4, none⟩ = some (.int .i64 M) := (b4.cell (by first | omega | (simp; omega))).trans (by go_simp)
      have O4 := Lib.hid o4; have E4 := Lib.hid e4; have G4 := Lib.hid (show l4.length ≤ 162 by rw [e4, List.length_append]; have := G2.out; have := GX3.out; omega)
      clear o4 e4 b4
      go_wp2_with fail
      go_ret
      have r := O4.out.ints' (by have := G4.out; omega)
      rw [E4.out, E2.out] at r
      have r2 : Ints .u8 w4 v4 (askBytes 2 I N M x) := by (rw [HSB.out]; simpa only [List.append_assoc] using r)
      exact ⟨_, rfl, r2, B4.out⟩
    · have HSB := Lib.hid (show askBytes 3 I N M x = putsU 3 ++ putsU N ++ putsU M by unfold askBytes; rw [if_pos HK.out]; simp)
      have HN := Lib.hid (fun W => rnames_any 3 W)
      rw [show decide ((3 : Int) = 1) = false from rfl, show decide ((3 : Int) = 1 ∨ (3 : Int) = 2 ∨ (3 : Int) = 7) = false from rfl, show decide ((3 : Int) = 3 ∨ (3 : Int) = 4) = true from rfl, show decide ((3 : Int) = 3) = true from rfl] at HN
      clear hk HK
      go_enter Try.func36, Try.ntmps36
      go_wp2_with fail
      (with_reducible refine (HI.out _ (HX.out.below (by (repeat (first | with_reducible exact Below.refl _ _ | with_reducible refine Bs ?_ | with_reducible refine Ba ?_ | with_reducible refine Bd ?_ | with_reducible refine Bn ?_))))).mono ?_); rintro e w1 ⟨rfl, b1⟩; have s1 : w.heap.size + 1 ≤ w1.heap.size := sz b1; have B1 := Lib.hid (Bc (B := w.heap.size) (a := w) (by (repeat (first | with_reducible exact Below.refl _ _ | with_reducible refine Bs ?_ | with_reducible refine Ba ?_ | with_reducible refine Bd ?_ | with_reducible refine Bn ?_))) b1); obtain ⟨c1_0, c1_1, c1_2, c1_3, c1_4⟩ := k5 (w.heap.size) (.int .i64 3) (.int .i64 I) (.slice xa x.length xc) (.int .i64 N) (.int .i64 M) b1 (by and_intros <;> go_simp); obtain ⟨l1_0, n1_0, m1_0⟩ := lnm (show w.heap.size < w1.heap.size by omega); clear b1
      go_wp2_with fail
      (with_reducible refine (rU_lit 3 3 rfl _ (by omega)).mono ?_); rintro e w2 ⟨v2, rfl, o2, b2⟩; have s2 : w1.heap.size ≤ w2.heap.size := sz b2; have B2 := Lib.hid (Bc (B := w.heap.size) (a := w) (by (repeat (first | with_reducible exact Below.refl _ _ | with_reducible refine Bs ?_ | with_reducible refine Ba ?_ | with_reducible refine Bd ?_ | with_reducible refine Bn ?_ | with_reducible refine Bt B1.out ?_))) b2); obtain ⟨c2_0, c2_1, c2_2, c2_3, c2_4⟩ := k5 (w.heap.size) (.int .i64 3) (.int .i64 I) (.slice xa x.length xc) (.int .i64 N) (.int .i64 M) b2 (by and_intros <;> go_simp); obtain ⟨l2_0, n2_0, m2_0⟩ := lnm (show w.heap.size < w2.heap.size by omega); clear b2
      have O2 := Lib.hid o2; clear o2
      have G2 := Lib.hid (show (putsU 3).length ≤ 81 by have := putsU_len (n := 3); omega)
      obtain ⟨l2, hl2⟩ : ∃ l, putsU 3 = l := ⟨_, rfl⟩
      rw [hl2] at O2 G2; have E2 := Lib.hid hl2.symm; clear hl2
      go_wp2_with fail
      (with_reducible refine (HN.out _).mono ?_)
      rintro e w9 ⟨rfl, rfl⟩
      go_wp2_with fail
      (with_reducible refine (rU_any N _ (by omega)).mono ?_); rintro e w3 ⟨v3, rfl, o3, b3⟩; have s3 : w2.heap.size ≤ w3.heap.size := sz b3; have B3 := Lib.hid (Bc (B := w.heap.size) (a := w) (by (repeat (first | with_reducible exact Below.refl _ _ | with_reducible refine Bs ?_ | with_reducible refine Ba ?_ | with_reducible refine Bd ?_ | with_reducible refine Bn ?_ | with_reducible refine Bt B2.out ?_))) b3); obtain ⟨c3_0, c3_1, c3_2, c3_3, c3_4⟩ := k5 (w.heap.size) (.int .i64 3) (.int .i64 I) (.slice xa x.length xc) (.int .i64 N) (.int .i64 M) b3 (by and_intros <;> go_simp); obtain ⟨l3_0, n3_0, m3_0⟩ := lnm (show w.heap.size < w3.heap.size by omega); have O2 := Lib.hid ((O2.out.below (by (repeat (first | with_reducible exact Below.refl _ _ | with_reducible refine Bs ?_ | with_reducible refine Ba ?_ | with_reducible refine Bd ?_ | with_reducible refine Bn ?_)))).below b3); clear b3
      have GX3 := Lib.hid (show (putsU N).length ≤ 81 by have := putsU_len (n := N); omega)
      have OX3 := Lib.hid (o3.ints' (by have := GX3.out; omega))
      clear o3
      go_wp2_with (at_builtin; go_must (refine appB rfl _ _ 48 rfl Try.underlying48 eiU8 w1.heap.size (by rfl) O2.out (by rfl) OX3.out (by have := G2.out; have := GX3.out; omega) (by omega) ?_))
      intro v4 w4 o4 b4
      obtain ⟨l4, e4⟩ : ∃ l, l = l2 ++ putsU N := ⟨_, rfl⟩
      rw [← e4] at o4
      have s4 : w3.heap.size ≤ w4.heap.size := b4.size
      have B4 := Lib.hid (show Below w.heap.size w w4 from below_tr B3.out (b4.mono (by omega)))
      have c4_0 : w4.cell? ⟨w.heap.size, 0, none⟩ = some (.int .i64 3) := (b4.cell (by first | omega | (simp; omega))).trans (by go_simp)
      have c4_1 : w4.cell? ⟨w.heap.size, 1, none⟩ = some (.int .i64 I) := (b4.cell (by first | omega | (simp; omega))).trans (by go_simp)
      have c4_2 : w4.cell? ⟨w.heap.size, 2, none⟩ = some (.slice xa x.length xc) := (b4.cell (by first | omega | (simp; omega))).trans (by go_simp)
      have c4_3 : w4.cell? ⟨w.heap.size, 3, none⟩ = some (.int .i64 N) := (b4.cell (by first | omega | (simp; omega))).trans (by go_simp)
      have c4_4 : w4.cell? ⟨w.heap.size, 4, none⟩ = some (.int .i64 M) := (b4.cell (by first | omega | (simp; omega))).trans (by go_simp)
      have O4 := Lib.hid o4; have E4 := Lib.hid e4; have G4 := Lib.hid (show l4.length ≤ 162 by rw [e4, List.length_append]; have := G2.out; have := GX3.out; omega)
      clear o4 e4 b4
      go_wp2_with fail
      (with_reducible refine (rU_any M _ (by omega)).mono ?_); rintro e w5 ⟨v5, rfl, o5, b5⟩; have s5 : w4.heap.size ≤ w5.heap.size := sz b5; have B5 := Lib.hid (Bc (B := w.heap.size) (a := w) (by (repeat (first | with_reducible exact Below.refl _ _ | with_reducible refine Bs ?_ | with_reducible refine Ba ?_ | with_reducible refine Bd ?_ | with_reducible refine Bn ?_ | with_reducible refine Bt B4.out ?_))) b5); obtain ⟨c5_0, c5_1, c5_2, c5_3, c5_4⟩ := k5 (w.heap.size) (.int .i64 3) (.int .i64 I) (.slice xa x.length xc) (.int .i64 N) (.int .i64 M) b5 (by and_intros <;> go_simp); obtain ⟨l5_0, n5_0, m5_0⟩ := lnm (show w.heap.size < w5.heap.size by omega); have O4 := Lib.hid ((O4.out.below (by (repeat (first | with_reducible exact Below.refl _ _ | with_reducible refine Bs ?_ | with_reducible refine Ba ?_ | with_reducible refine Bd ?_ | with_reducible refine Bn ?_)))).below b5); clear b5
      have GX5 := Lib.hid (show (putsU M).length ≤ 81 by have := putsU_len (n := M); omega)
      have OX5 := Lib.hid (o5.ints' (by have := GX5.out; omega))
      clear o5
      go_wp2_with (at_builtin; go_must (refine appB rfl _ _ 48 rfl Try.underlying48 eiU8 w1.heap.size (by rfl) O4.out (by rfl) OX5.out (by have := G4.out; have := GX5.out; omega) (by omega) ?_))
      intro v6 w6 o6 b6
      obtain ⟨l6, e6⟩ : ∃ l, l = l4 ++ putsU M := ⟨_, rfl⟩
      rw [← e6] at o6
      have s6 : w5.heap.size ≤ w6.heap.size := b6.size
      have B6 := Lib.hid (show Below w.heap.size w w6 from below_tr B5.out (b6.mono (by omega)))
      have c6_0 : w6.cell? ⟨w.heap.size, 0, none⟩ = some (.int .i64 3) := (b6.cell (by first | omega | (simp; omega))).trans (by go_simp)
      have c6_1 : w6.cell? ⟨w.heap.size, 1, none⟩ = some (.int .i64 I) := (b6.cell (by first | omega | (simp; omega))).trans (by go_simp)
      have c6_2 : w6.cell? ⟨w.heap.size, 2, none⟩ = some (.slice xa x.length xc) := (b6.cell (by first | omega | (simp; omega))).trans (by go_simp)
      have c6_3 : w6.cell? ⟨w.heap.size, 3, none⟩ = some (.int .i64 N) := (b6.cell (by first | omega | (simp; omega))).trans (by go_simp)
      have c6_4 : w6.cell? ⟨w.heap.size, 4, none⟩ = some (.int .i64 M) := (b6.cell (by first | omega | (simp; omega))).trans (by go_simp)
      have O6 := Lib.hid o6; have E6 := Lib.hid e6; have G6 := Lib.hid (show l6.length ≤ 243 by rw [e6, List.length_append]; have := G4.out; have := GX5.out; omega)
      clear o6 e6 b6
      go_wp2_with fail
      go_ret
      have r := O6.out.ints' (by have := G6.out; omega)
      rw [E6.out, E4.out, E2.out] at r
      have r2 : Ints .u8 w6 v6 (askBytes 3 I N M x) := by (rw [HSB.out]; simpa only [List.append_assoc] using r)
      exact ⟨_, rfl, r2, B6.out⟩
    · have HSB := Lib.hid (show askBytes 4 I N M x = putsU 4 ++ putsU N by unfold askBytes; rw [if_pos HK.out]; simp)
      have HN := Lib.hid (fun W => rnames_any 4 W)
      rw [show decide ((4 : Int) = 1) = false from rfl, show decide ((4 : Int) = 1 ∨ (4 : Int) = 2 ∨ (4 : Int) = 7) = false from rfl, show decide ((4 : Int) = 3 ∨ (4 : Int) = 4) = true from rfl, show decide ((4 : Int) = 3) = false from rfl] at HN
      clear hk HK
      go_enter Try.func36, Try.ntmps36
      go_wp2_with fail
      (with_reducible refine (HI.out _ (HX.out.below (by (repeat (first | with_reducible exact Below.refl _ _ | with_reducible refine Bs ?_ | with_reducible refine Ba ?_ | with_reducible refine Bd ?_ | with_reducible refine Bn ?_))))).mono ?_); rintro e w1 ⟨rfl, b1⟩; have s1 : w.heap.size + 1 ≤ w1.heap.size := sz b1; have B1 := Lib.hid (Bc (B := w.heap.size) (a := w) (by (repeat (first | with_reducible exact Below.refl _ _ | with_reducible refine Bs ?_ | with_reducible refine Ba ?_ | with_reducible refine Bd ?_ | with_reducible refine Bn ?_))) b1); obtain ⟨c1_0, c1_1, c1_2, c1_3, c1_4⟩ := k5 (w.heap.size) (.int .i64 4) (.int .i64 I) (.slice xa x.length xc) (.int .i64 N) (.int .i64 M) b1 (by and_intros <;> go_simp); obtain ⟨l1_0, n1_0, m1_0⟩ := lnm (show w.heap.size < w1.heap.size by omega); clear b1
      go_wp2_with fail
      (with_reducible refine (rU_lit 4 4 rfl _ (by omega)).mono ?_); rintro e w2 ⟨v2, rfl, o2, b2⟩; have s2 : w1.heap.size ≤ w2.heap.size := sz b2; have B2 := Lib.hid (Bc (B := w.heap.size) (a := w) (by (repeat (first | with_reducible exact Below.refl _ _ | with_reducible refine Bs ?_ | with_reducible refine Ba ?_ | with_reducible refine Bd ?_ | with_reducible refine Bn ?_ | with_reducible refine Bt B1.out ?_))) b2); obtain ⟨c2_0, c2_1, c2_2, c2_3, c2_4⟩ := k5 (w.heap.size) (.int .i64 4) (.int .i64 I) (.slice xa x.length xc) (.int .i64 N) (.int .i64 M) b2 (by and_intros <;> go_simp); obtain ⟨l2_0, n2_0, m2_0⟩ := lnm (show w.heap.size < w2.heap.size by omega); clear b2
      have O2 := Lib.hid o2; clear o2
      have G2 := Lib.hid (show (putsU 4).length ≤ 81 by have := putsU_len (n := 4); omega)
      obtain ⟨l2, hl2⟩ : ∃ l, putsU 4 = l := ⟨_, rfl⟩
      rw [hl2] at O2 G2; have E2 := Lib.hid hl2.symm; clear hl2
      go_wp2_with fail
      (with_reducible refine (HN.out _).mono ?_)
      rintro e w9 ⟨rfl, rfl⟩
      go_wp2_with fail
      (with_reducible refine (rU_any N _ (by omega)).mono ?_); rintro e w3 ⟨v3, rfl, o3, b3⟩; have s3 : w2.heap.size ≤ w3.heap.size := sz b3; have B3 := Lib.hid (Bc (B := w.heap.size) (a := w) (by (repeat (first | with_reducible exact Below.refl _ _ | with_reducible refine Bs ?_ | with_reducible refine Ba ?_ | with_reducible refine Bd ?_ | with_reducible refine Bn ?_ | with_reducible refine Bt B2.out ?_))) b3); obtain ⟨c3_0, c3_1, c3_2, c3_3, c3_4⟩ := k5 (w.heap.size) (.int .i64 4) (.int .i64 I) (.slice xa x.length xc) (.int .i64 N) (.int .i64 M) b3 (by and_intros <;> go_simp); obtain ⟨l3_0, n3_0, m3_0⟩ := lnm (show w.heap.size < w3.heap.size by omega); have O2 := Lib.hid ((O2.out.below (by (repeat (first | with_reducible exact Below.refl _ _ | with_reducible refine Bs ?_ | with_reducible refine Ba ?_ | with_reducible refine Bd ?_ | with_reducible refine Bn ?_)))).below b3); clear b3
      have GX3 := Lib.hid (show (putsU N).length ≤ 81 by have := putsU_len (n := N); omega)
      have OX3 := Lib.hid (o3.ints' (by have := GX3.out; omega))
      clear o3
      go_wp2_with (at_builtin; go_must (refine appB rfl _ _ 48 rfl Try.underlying48 eiU8 w1.heap.size (by rfl) O2.out (by rfl) OX3.out (by have := G2.out; have := GX3.out; omega) (by omega) ?_))
      intro v4 w4 o4 b4
      obtain ⟨l4, e4⟩ : ∃ l, l = l2 ++ putsU N := ⟨_, rfl⟩
      rw [← e4] at o4
      have s4 : w3.heap.size ≤ w4.heap.size := b4.size
      have B4 := Lib.hid (show Below w.heap.size w w4 from below_tr B3.out (b4.mono (by omega)))
      have c4_0 : w4.cell? ⟨w.heap.size, 0, none⟩ = some (.int .i64 4) := (b4.cell (by first | omega | (simp; omega))).trans (by go_simp)
      have c4_1 : w4.cell? ⟨w.heap.size, 1, none⟩ = some (.int .i64 I) := (b4.cell (by first | omega | (simp; omega))).trans (by go_simp)
      have c4_2 : w4.cell? ⟨w.heap.size, 2, none⟩ = some (.slice xa x.length xc) := (b4.cell (by first | omega | (simp; omega))).trans (by go_simp)
      have c4_3 : w4.cell? ⟨w.heap.size, 3, none⟩ = some (.int .i64 N) := (b4.cell (by first | omega | (simp; omega))).trans (by go_simp)
      have c4_4 : w4.cell? ⟨w.heap.size, 4, none⟩ = some (.int .i64 M) := (b4.cell (by first | omega | (simp; omega))).trans (by go_simp)
      have O4 := Lib.hid o4; have E4 := Lib.hid e4; have G4 := Lib.hid (show l4.length ≤ 162 by rw [e4, List.length_append]; have := G2.out; have := GX3.out; omega)
      clear o4 e4 b4
      go_wp2_with fail
      go_ret
      have r := O4.out.ints' (by have := G4.out; omega)
      rw [E4.out, E2.out] at r
      have r2 : Ints .u8 w4 v4 (askBytes 4 I N M x) := by (rw [HSB.out]; simpa only [List.append_assoc] using r)
      exact ⟨_, rfl, r2, B4.out⟩
    · have HSB := Lib.hid (show askBytes 5 I N M x = putsU 5 by unfold askBytes; rw [if_pos HK.out]; simp)
      have HN := Lib.hid (fun W => rnames_any 5 W)
      rw [show decide ((5 : Int) = 1) = false from rfl, show decide ((5 : Int) = 1 ∨ (5 : Int) = 2 ∨ (5 : Int) = 7) = false from rfl, show decide ((5 : Int) = 3 ∨ (5 : Int) = 4) = false from rfl, show decide ((5 : Int) = 3) = false from rfl] at HN
      clear hk HK
      go_enter Try.func36, Try.ntmps36
      go_wp2_with fail
      (with_reducible refine (HI.out _ (HX.out.below (by (repeat (first | with_reducible exact Below.refl _ _ | with_reducible refine Bs ?_ | with_reducible refine Ba ?_ | with_reducible refine Bd ?_ | with_reducible refine Bn ?_))))).mono ?_); rintro e w1 ⟨rfl, b1⟩; have s1 : w.heap.size + 1 ≤ w1.heap.size := sz b1; have B1 := Lib.hid (Bc (B := w.heap.size) (a := w) (by (repeat (first | with_reducible exact Below.refl _ _ | with_reducible refine Bs ?_ | with_reducible refine Ba ?_ | with_reducible refine Bd ?_ | with_reducible refine Bn ?_))) b1); obtain ⟨c1_0, c1_1, c1_2, c1_3, c1_4⟩ := k5 (w.heap.size) (.int .i64 5) (.int .i64 I) (.slice xa x.length xc) (.int .i64 N) (.int .i64 M) b1 (by and_intros <;> go_simp); obtain ⟨l1_0, n1_0, m1_0⟩ := lnm (show w.heap.size < w1.heap.size by omega); clear b1
      go_wp2_with fail
      (with_reducible refine (rU_lit 5 5 rfl _ (by omega)).mono ?_); rintro e w2 ⟨v2, rfl, o2, b2⟩; have s2 : w1.heap.size ≤ w2.heap.size := sz b2; have B2 := Lib.hid (Bc (B := w.heap.size) (a := w) (by (repeat (first | with_reducible exact Below.refl _ _ | with_reducible refine Bs ?_ | with_reducible refine Ba ?_ | with_reducible refine Bd ?_ | with_reducible refine Bn ?_ | with_reducible refine Bt B1.out ?_))) b2); obtain ⟨c2_0, c2_1, c2_2, c2_3, c2_4⟩ := k5 (w.heap.size) (.int .i64 5) (.int .i64 I) (.slice xa x.length xc) (.int .i64 N) (.int .i64 M) b2 (by and_intros <;> go_simp); obtain ⟨l2_0, n2_0, m2_0⟩ := lnm (show w.heap.size < w2.heap.size by omega); clear b2
      have O2 := Lib.hid o2; clear o2
      have G2 := Lib.hid (show (putsU 5).length ≤ 81 by have := putsU_len (n := 5); omega)
      obtain ⟨l2, hl2⟩ : ∃ l, putsU 5 = l := ⟨_, rfl⟩
      rw [hl2] at O2 G2; have E2 := Lib.hid hl2.symm; clear hl2
      go_wp2_with fail
      (with_reducible refine (HN.out _).mono ?_)
      rintro e w9 ⟨rfl, rfl⟩
      go_wp2_with fail
      go_ret
      have r := O2.out.ints' (by have := G2.out; omega)
      rw [E2.out] at r
      have r2 : Ints .u8 w2 v2 (askBytes 5 I N M x) := by (rw [HSB.out]; simpa only [List.append_assoc] using r)
      exact ⟨_, rfl, r2, B2.out⟩
    · have HSB := Lib.hid (show askBytes 6 I N M x = putsU 6 by unfold askBytes; rw [if_pos HK.out]; simp)
      have HN := Lib.hid (fun W => rnames_any 6 W)
      rw [show decide ((6 : Int) = 1) = false from rfl, show decide ((6 : Int) = 1 ∨ (6 : Int) = 2 ∨ (6 : Int) = 7) = false from rfl, show decide ((6 : Int) = 3 ∨ (6 : Int) = 4) = false from rfl, show decide ((6 : Int) = 3) = false from rfl] at HN
      clear hk HK
      go_enter Try.func36, Try.ntmps36
      go_wp2_with fail
      (with_reducible refine (HI.out _ (HX.out.below (by (repeat (first | with_reducible exact Below.refl _ _ | with_reducible refine Bs ?_ | with_reducible refine Ba ?_ | with_reducible refine Bd ?_ | with_reducible refine Bn ?_))))).mono ?_); rintro e w1 ⟨rfl, b1⟩; have s1 : w.heap.size + 1 ≤ w1.heap.size := sz b1; have B1 := Lib.hid (Bc (B := w.heap.size) (a := w) (by (repeat (first | with_reducible exact Below.refl _ _ | with_reducible refine Bs ?_ | with_reducible refine Ba ?_ | with_reducible refine Bd ?_ | with_reducible refine Bn ?_))) b1); obtain ⟨c1_0, c1_1, c1_2, c1_3, c1_4⟩ := k5 (w.heap.size) (.int .i64 6) (.int .i64 I) (.slice xa x.length xc) (.int .i64 N) (.int .i64 M) b1 (by and_intros <;> go_simp); obtain ⟨l1_0, n1_0, m1_0⟩ := lnm (show w.heap.size < w1.heap.size by omega); clear b1
      go_wp2_with fail
      (with_reducible refine (rU_lit 6 6 rfl _ (by omega)).mono ?_); rintro e w2 ⟨v2, rfl, o2, b2⟩; have s2 : w1.heap.size ≤ w2.heap.size := sz b2; have B2 := Lib.hid (Bc (B := w.heap.size) (a := w) (by (repeat (first | with_reducible exact Below.refl _ _ | with_reducible refine Bs ?_ | with_reducible refine Ba ?_ | with_reducible refine Bd ?_ | with_reducible refine Bn ?_ | with_reducible refine Bt B1.out ?_))) b2); obtain ⟨c2_0, c2_1, c2_2, c2_3, c2_4⟩ := k5 (w.heap.size) (.int .i64 6) (.int .i64 I) (.slice xa x.length xc) (.int .i64 N) (.int .i64 M) b2 (by and_intros <;> go_simp); obtain ⟨l2_0, n2_0, m2_0⟩ := lnm (show w.heap.size < w2.heap.size by omega); clear b2
      have O2 := Lib.hid o2; clear o2
      have G2 := Lib.hid (show (putsU 6).length ≤ 81 by have := putsU_len (n := 6); omega)
      obtain ⟨l2, hl2⟩ : ∃ l, putsU 6 = l := ⟨_, rfl⟩
      rw [hl2] at O2 G2; have E2 := Lib.hid hl2.symm; clear hl2
      go_wp2_with fail
      (with_reducible refine (HN.out _).mono ?_)
      rintro e w9 ⟨rfl, rfl⟩
      go_wp2_with fail
      go_ret
      have r := O2.out.ints' (by have := G2.out; omega)
      rw [E2.out] at r
      have r2 : Ints .u8 w2 v2 (askBytes 6 I N M x) := by (rw [HSB.out]; simpa only [List.append_assoc] using r)
      exact ⟨_, rfl, r2, B2.out⟩
    · have HSB := Lib.hid (show askBytes 7 I N M x = putsU 7 ++ putsInts x by unfold askBytes; rw [if_pos HK.out]; simp)
      have HN := Lib.hid (fun W => rnames_any 7 W)
      rw [show decide ((7 : Int) = 1) = false from rfl, show decide ((7 : Int) = 1 ∨ (7 : Int) = 2 ∨ (7 : Int) = 7) = true from rfl, show decide ((7 : Int) = 3 ∨ (7 : Int) = 4) = false from rfl, show decide ((7 : Int) = 3) = false from rfl] at HN
      clear hk HK
      go_enter Try.func36, Try.ntmps36
      go_wp2_with fail
      (with_reducible refine (HI.out _ (HX.out.below (by (repeat (first | with_reducible exact Below.refl _ _ | with_reducible refine Bs ?_ | with_reducible refine Ba ?_ | with_reducible refine Bd ?_ | with_reducible refine Bn ?_))))).mono ?_); rintro e w1 ⟨rfl, b1⟩; have s1 : w.heap.size + 1 ≤ w1.heap.size := sz b1; have B1 := Lib.hid (Bc (B := w.heap.size) (a := w) (by (repeat (first | with_reducible exact Below.refl _ _ | with_reducible refine Bs ?_ | with_reducible refine Ba ?_ | with_reducible refine Bd ?_ | with_reducible refine Bn ?_))) b1); obtain ⟨c1_0, c1_1, c1_2, c1_3, c1_4⟩ := k5 (w.heap.size) (.int .i64 7) (.int .i64 I) (.slice xa x.length xc) (.int .i64 N) (.int .i64 M) b1 (by and_intros <;> go_simp); obtain ⟨l1_0, n1_0, m1_0⟩ := lnm (show w.heap.size < w1.heap.size by omega); clear b1
      go_wp2_with fail
      (with_reducible refine (rU_lit 7 7 rfl _ (by omega)).mono ?_); rintro e w2 ⟨v2, rfl, o2, b2⟩; have s2 : w1.heap.size ≤ w2.heap.size := sz b2; have B2 := Lib.hid (Bc (B := w.heap.size) (a := w) (by (repeat (first | with_reducible exact Below.refl _ _ | with_reducible refine Bs ?_ | with_reducible refine Ba ?_ | with_reducible refine Bd ?_ | with_reducible refine Bn ?_ | with_reducible refine Bt B1.out ?_))) b2); obtain ⟨c2_0, c2_1, c2_2, c2_3, c2_4⟩ := k5 (w.heap.size) (.int .i64 7) (.int .i64 I) (.slice xa x.length xc) (.int .i64 N) (.int .i64 M) b2 (by and_intros <;> go_simp); obtain ⟨l2_0, n2_0, m2_0⟩ := lnm (show w.heap.size < w2.heap.size by omega); clear b2
      have O2 := Lib.hid o2; clear o2
      have G2 := Lib.hid (show (putsU 7).length ≤ 81 by have := putsU_len (n := 7); omega)
      obtain ⟨l2, hl2⟩ : ∃ l, putsU 7 = l := ⟨_, rfl⟩
      rw [hl2] at O2 G2; have E2 := Lib.hid hl2.symm; clear hl2
      go_wp2_with fail
      (with_reducible refine (HN.out _).mono ?_)
      rintro e w9 ⟨rfl, rfl⟩
      go_wp2_with fail
      (with_reducible refine (rInts_any _ x _ (HX.out.below (by (repeat (first | with_reducible exact Below.refl _ _ | with_reducible refine Bs ?_ | with_reducible refine Ba ?_ | with_reducible refine Bd ?_ | with_reducible refine Bn ?_ | with_reducible refine Bt B2.out ?_)))) H64.out (by have := HL.out; omega)).mono ?_); rintro e w3 ⟨v3, rfl, o3, b3⟩; have s3 : w2.heap.size ≤ w3.heap.size := sz b3; have B3 := Lib.hid (Bc (B := w.heap.size) (a := w) (by (repeat (first | with_reducible exact Below.refl _ _ | with_reducible refine Bs ?_ | with_reducible refine Ba ?_ | with_reducible refine Bd ?_ | with_reducible refine Bn ?_ | with_reducible refine Bt B2.out ?_))) b3); obtain ⟨c3_0, c3_1, c3_2, c3_3, c3_4⟩ := k5 (w.heap.size) (.int .i64 7) (.int .i64 I) (.slice xa x.length xc) (.int .i64 N) (.int .i64 M) b3 (by and_intros <;> go_simp); obtain ⟨l3_0, n3_0, m3_0⟩ := lnm (show w.heap.size < w3.heap.size by omega); have O2 := Lib.hid ((O2.out.below (by (repeat (first | with_reducible exact Below.refl _ _ | with_reducible refine Bs ?_ | with_reducible refine Ba ?_ | with_reducible refine Bd ?_ | with_reducible refine Bn ?_)))).below b3); clear b3
      have GX3 := Lib.hid (show (putsInts x).length ≤ 81 by have h1 := putsIs_len x; have h2 := putsU_len (n := x.length); have h3 := HL.out; unfold putsInts; rw [List.length_append]; omega)
      have OX3 := Lib.hid (o3.ints' (by have := GX3.out; omega))
      clear o3
      go_wp2_with (at_builtin; go_must (refine appB rfl _ _ 48 rfl Try.underlying48 eiU8 w1.heap.size (by rfl) O2.out (by rfl) OX3.out (by have := G2.out; have := GX3.out; omega) (by omega) ?_))
      intro v4 w4 o4 b4
      obtain ⟨l4, e4⟩ : ∃ l, l = l2 ++ putsInts x := ⟨_, rfl⟩
      rw [← e4] at o4
      have s4 : w3.heap.size ≤ w4.heap.size := b4.size
      have B4 := Lib.hid (show Below w.heap.size w w4 from below_tr B3.out (b4.mono (by omega)))
      have c4_0 : w4.cell? ⟨w.heap.size, 0, none⟩ = some (.int .i64 7) := (b4.cell (by first | omega | (simp; omega))).trans (by go_simp)
      have c4_1 : w4.cell? ⟨w.heap.size, 1, none⟩ = some (.int .i64 I) := (b4.cell (by first | omega | (simp; omega))).trans (by go_simp)
      have c4_2 : w4.cell? ⟨w.heap.size, 2, none⟩ = some (.slice xa x.length xc) := (b4.cell (by first | omega | (simp; omega))).trans (by go_simp)
      have c4_3 : w4.cell? ⟨w.heap.size, 3, none⟩ = some (.int .i64 N) := (b4.cell (by first | omega | (simp; omega))).trans (by go_simp)
      have c4_4 : w4.cell? ⟨w.heap.size, 4, none⟩ = some (.int .i64 M) := (b4.cell (by first | omega | (simp; omega))).trans (by go_simp)
      have O4 := Lib.hid o4; have E4 := Lib.hid e4; have G4 := Lib.hid (show l4.length ≤ 162 by rw [e4, List.length_append]; have := G2.out; have := GX3.out; omega)
      clear o4 e4 b4
      go_wp2_with fail
      go_ret
      have r := O4.out.ints' (by have := G4.out; omega)
      rw [E4.out, E2.out] at r
      have r2 : Ints .u8 w4 v4 (askBytes 7 I N M x) := by (rw [HSB.out]; simpa only [List.append_assoc] using r)
      exact ⟨_, rfl, r2, B4.out⟩
end Go.Proofs.Ytjmjnkilgoelbaa
