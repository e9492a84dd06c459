/-
  Walks of package wide: quotients, roots.
-/
import Derived.Test.YticpmcghdoiceaaWideA
import Derived.Laws.Bits64b
namespace Go.Proofs.Yticpmcghdoiceaa
open Go.RowKit

theorem wide_div {ah al d : Nat} (h2 : (al : Int) ≤ 18446744073709551615) (h0 : 0 < d) :
    (ah * 18446744073709551616 + al) / d = ah / d * 18446744073709551616 + (ah % d * 18446744073709551616 + al) / d ∧ (ah * 18446744073709551616 + al) % d = (ah % d * 18446744073709551616 + al) % d ∧ (ah % d * 18446744073709551616 + al) / d < 18446744073709551616 := by
  have e : ah * 18446744073709551616 + al = (ah % d * 18446744073709551616 + al) + d * (ah / d * 18446744073709551616) := by
    have := Nat.mod_add_div ah d
    calc ah * 18446744073709551616 + al = (ah % d + d * (ah / d)) * 18446744073709551616 + al := by rw [this]
      _ = _ := by rw [Nat.add_mul, Nat.mul_assoc]; omega
  refine ⟨?_, ?_, ?_⟩
  · rw [e, Nat.add_mul_div_left _ _ h0, Nat.add_comm]
  · rw [e, Nat.add_mul_mod_self_left]
  · rw [Nat.div_lt_iff_lt_mul h0]
    have h3 : ah % d + 1 ≤ d := Nat.mod_lt _ h0
    calc ah % d * 18446744073709551616 + al < (ah % d + 1) * 18446744073709551616 := by omega
      _ ≤ d * 18446744073709551616 := Nat.mul_le_mul_right _ h3
      _ = 18446744073709551616 * d := Nat.mul_comm _ _

set_option maxRecDepth 100000 in
theorem wDiv_zero (n : Nat) (w : World) (hn : n < T128) :
    Calls Try.prog 15 #[WV n, .int .u64 0] w fun e w' => e = .returned (.tuple #[WV 0, .int .u64 0, .int .i64 11]) ∧ Below w.heap.size w w' := by
  obtain ⟨ah, al, h1, h2, rfl, e1⟩ := wv_ex hn
  rw [e1]
  clear hn e1
  go_enter Try.func15, Try.ntmps15
  go_wp2
  refine bodyPost_ret (v := .tuple #[.agg #[.int .u64 0, .int .u64 0], .int .u64 0, .int .i64 11]) (by simp [results, Try.results15, go_sem]) rfl ⟨rfl, ?_⟩
  (repeat (first | with_reducible exact Below.refl _ _ | ((with_reducible refine Below.setCell ?_ ?_ _); rotate_left; (focus (first | omega | (simp; done) | (simp; omega)))) | ((with_reducible refine Below.alloc ?_ ?_ _); rotate_left; (focus (first | omega | (simp; done) | (simp; omega)))) | (with_reducible refine Below.drew ?_) | (with_reducible refine below_drewN ?_ _)))

set_option maxRecDepth 100000 in
set_option maxHeartbeats 800000 in
theorem wDiv_any (n d : Nat) (w : World) (hn : n < T128) (hd : (d : Int) ≤ 18446744073709551615) (h0 : 0 < d) :
    Calls Try.prog 15 #[WV n, .int .u64 d] w fun e w' => e = .returned (.tuple #[WV (n / d), .int .u64 ((n % d : Nat) : Int), .int .i64 0]) ∧ Below w.heap.size w w' := by
  obtain ⟨ah, al, h1, h2, rfl, e1⟩ := wv_ex hn
  obtain ⟨k1, k2, k3⟩ := wide_div (ah := ah) (d := d) h2 h0
  have hD := fun W => div64_any (ah % d) al d W h2 hd (Nat.mod_lt _ h0)
  rw [e1, k1, k2]
  obtain ⟨q, hq⟩ : ∃ q, (ah % d * 18446744073709551616 + al) / d = q := ⟨_, rfl⟩
  obtain ⟨r, hr⟩ : ∃ r, (ah % d * 18446744073709551616 + al) % d = r := ⟨_, rfl⟩
  rw [hq] at k3 ⊢
  rw [hr]
  rw [hq, hr] at hD
  rw [wv_of (ah / d) q k3 rfl]
  obtain ⟨m, hm⟩ : ∃ m, ah % d = m := ⟨_, rfl⟩
  obtain ⟨p, hp⟩ : ∃ p, ah / d = p := ⟨_, rfl⟩
  have em : (ah : Int) % (d : Int) = (m : Int) := by rw [← hm]; rfl
  have ep : (ah : Int) / (d : Int) = (p : Int) := by rw [← hp]; rfl
  have hp64 : (p : Int) ≤ 18446744073709551615 := by have := Nat.div_le_self ah d; omega
  have hq64 : (q : Int) ≤ 18446744073709551615 := by omega
  have hr64 : (r : Int) ≤ 18446744073709551615 := by have := Nat.mod_lt (ah % d * 18446744073709551616 + al) h0; omega
  rw [hm] at hD
  rw [hp]
  have HD := Lib.hid hD
  have n0 : ((d : Int) == 0) = false := by simp; omega
  have n1 : ¬ (d : Int) = 0 := by omega
  have n2 : ¬ d = 0 := by omega
  clear hD hm hp k1 k2 k3 e1 hn hq hr
  go_enter Try.func15, Try.ntmps15
  go_wp2_with fail
  go_quiet (fail)
  go_wp2_with fail
  refine (HD.out _).mono ?_
  rintro e w1 ⟨rfl, dd, rfl⟩
  go_wp2
  refine bodyPost_ret (v := .tuple #[.agg #[.int .u64 p, .int .u64 q], .int .u64 r, .int .i64 0]) (by simp [results, Try.results15, go_sem]) rfl ⟨rfl, ?_⟩
  (repeat (first | with_reducible exact Below.refl _ _ | ((with_reducible refine Below.setCell ?_ ?_ _); rotate_left; (focus (first | omega | (simp; done) | (simp; omega)))) | ((with_reducible refine Below.alloc ?_ ?_ _); rotate_left; (focus (first | omega | (simp; done) | (simp; omega)))) | (with_reducible refine Below.drew ?_) | (with_reducible refine below_drewN ?_ _)))

/-- The root, bit by bit. -/
def rootF (a : Nat) : Nat → Nat → Nat
  | 0, r => r
  | k + 1, r => if (r + 2 ^ k) * (r + 2 ^ k) ≤ a then rootF a k (r + 2 ^ k) else rootF a k r

theorem rootF_law (a : Nat) : ∀ (k r : Nat), r * r ≤ a → a < (r + 2 ^ k) * (r + 2 ^ k) → rootF a k r * rootF a k r ≤ a ∧ a < (rootF a k r + 1) * (rootF a k r + 1) := by
  intro k
  induction k with
  | zero => intro r h1 h2; exact ⟨h1, h2⟩
  | succ k ih =>
    intro r h1 h2
    rw [rootF]
    split
    · rename_i h
      refine ih _ h ?_
      rw [show r + 2 ^ k + 2 ^ k = r + 2 ^ (k + 1) by rw [Nat.pow_succ]; omega]
      exact h2
    · rename_i h
      exact ih _ h1 (by omega)

theorem rootF_le (a : Nat) : ∀ (k r : Nat), rootF a k r < r + 2 ^ k + (if k = 0 then 1 else 0) := by
  intro k
  induction k with
  | zero => intro r; simp [rootF]; omega
  | succ k ih =>
    intro r
    rw [rootF, if_neg (show ¬ k + 1 = 0 by omega)]
    have h2 : 0 < 2 ^ k := Nat.pow_pos (by omega)
    have h3 : 2 ^ (k + 1) = 2 ^ k + 2 ^ k := by rw [Nat.pow_succ]; omega
    rcases Nat.eq_zero_or_pos k with h0 | h0
    · subst h0
      split <;> simp [rootF]
    · have e : (if k = 0 then 1 else 0) = 0 := if_neg (by omega)
      split
      · have := ih (r + 2 ^ k); omega
      · have := ih r; omega

theorem sq_lt {t : Nat} (h : (t : Int) ≤ 18446744073709551615) : t * t < T128 := by
  unfold T128
  have h1 : t ≤ 18446744073709551615 := by omega
  exact Nat.lt_of_le_of_lt (Nat.mul_le_mul h1 h1) (by decide)

def rootN (a : Nat) : Nat := rootF a 64 0

theorem or_pow {r k : Nat} (h : r % 2 ^ (k + 1) = 0) : r ||| 2 ^ k = r + 2 ^ k := by
  obtain ⟨q, hq⟩ : ∃ q, r = 2 ^ (k + 1) * q := ⟨r / 2 ^ (k + 1), by rw [Nat.mul_div_cancel' (Nat.dvd_of_mod_eq_zero h)]⟩
  have := Nat.two_pow_add_eq_or_of_lt (i := k + 1) (b := 2 ^ k) (Nat.pow_lt_pow_right (by omega) (by omega)) q
  rw [hq, this]

set_option maxRecDepth 100000 in
set_option maxHeartbeats 2000000 in
theorem wRoot_any (a : Nat) (w : World) (hn : a < T128) :
    Calls Try.prog 22 #[WV a] w fun e w' => e = .returned (.int .u64 (rootN a : Int)) ∧ Below w.heap.size w w' := by
  have hC := fun x W (hx : x * x < T128) => wCmp_any (x * x) a W hx hn
  obtain ⟨R, hR⟩ : ∃ R, rootN a = R := ⟨_, rfl⟩
  rw [hR]
  have HR := Lib.hid hR
  have HC := Lib.hid hC
  obtain ⟨ah, al, h1, h2, hA, e1⟩ := wv_ex hn
  rw [e1] at HC ⊢
  have HE := Lib.hid e1
  clear hR hC e1 hn hA
  go_enter Try.func22, Try.ntmps22
  go_wp2_with fail
  go_loopw [3, 4] (fun r i wr => ∃ m s : Nat, i = .int .i64 ((m : Int) - 1) ∧ m ≤ 64 ∧ r = .int .u64 s ∧ s % 2 ^ m = 0 ∧ s + 2 ^ m ≤ 2 ^ 64 ∧ rootF a m s = R ∧ wr.cell? ⟨w.heap.size, 0, none⟩ = some (.int .u64 ah) ∧ wr.cell? ⟨w.heap.size, 1, none⟩ = some (.int .u64 al) ∧ w.heap.size < wr.heap.size ∧ Below w.heap.size w wr) (fun _ i _ => (intOf i + 1).toNat)
  case atStart => exact ⟨64, 0, rfl, by omega, rfl, by simp, by simp, HR.out, by simp, by simp, by simp, by (repeat (first | with_reducible exact Below.refl _ _ | ((with_reducible refine Below.setCell ?_ ?_ _); rotate_left; (focus (first | omega | (simp; done) | (simp; omega)))) | ((with_reducible refine Below.alloc ?_ ?_ _); rotate_left; (focus (first | omega | (simp; done) | (simp; omega)))) | (with_reducible refine Below.drew ?_) | (with_reducible refine below_drewN ?_ _)))⟩
  case round =>
    obtain ⟨m, s, rfl, hm, rfl, hs, hle, hr, c0, c1, hsz, hb⟩ := hrel
    have HS := Lib.hid hs; have HL := Lib.hid hle; have HRR := Lib.hid hr; have HB := Lib.hid hb
    clear hs hle hr hb
    rcases m with _ | m
    · rw [show (((0 : Nat) : Int) - 1) = -1 by rfl]
      have hsR := HRR.out
      rw [rootF] at hsR
      subst hsR
      go_wp2
      go_ret
      exact ⟨rfl, HB.out⟩
    · rw [show (((m + 1 : Nat) : Int) - 1) = (m : Int) by omega]
      have hp2 : 2 ^ (m + 1) = 2 ^ m + 2 ^ m := by rw [Nat.pow_succ]; omega
      have hpp : 0 < 2 ^ m := Nat.pow_pos (by omega)
      have hlt : s + 2 ^ m < 2 ^ 64 := by have := HL.out; omega
      have hor0 := or_pow HS.out
      obtain ⟨t, ht⟩ : ∃ t, s + 2 ^ m = t := ⟨_, rfl⟩
      rw [ht] at hlt hor0
      have h64 : (t : Int) ≤ 18446744073709551615 := by have : (2 : Nat) ^ 64 = 18446744073709551616 := by decide
                                                        omega
      have hs64 : s < 18446744073709551616 := by omega
      have hm64 : 2 ^ m < 18446744073709551616 := by omega
      have hcast : ((2 : Int) ^ m) = ((2 ^ m : Nat) : Int) := by simp
      have hw : IntKind.u64.wrap ((2 : Int) ^ m) = ((2 ^ m : Nat) : Int) := by
        rw [hcast]; generalize 2 ^ m = z at *; simp only [IntKind.wrap_u64]; omega
      have hor : bits BinOp.or IntKind.u64 (s : Int) (IntKind.u64.wrap ((2 : Int) ^ m)) = (t : Int) := by
        rw [hw, bits_or_u64_nat s (2 ^ m) hs64 hm64, hor0]
      have htt : t * t < T128 := sq_lt h64
      have hcc := fun W => HC.out t W htt
      have hst := HRR.out
      rw [rootF, ht] at hst
      have HST := Lib.hid hst; have HTT := Lib.hid ht; have HPP := Lib.hid hp2
      have hmod : s % 2 ^ m = 0 ∧ t % 2 ^ m = 0 := by
        have h1 : s % 2 ^ m = 0 := by
          have := HS.out
          rw [Nat.pow_succ, Nat.mul_comm] at this
          have h2 := Nat.mod_mul_left_mod s 2 (2 ^ m)
          rw [this] at h2
          simpa using h2.symm
        exact ⟨h1, by rw [← ht, Nat.add_mod_right]; exact h1⟩
      have HM := Lib.hid hmod
      have hrel2 : s + 2 ^ m ≤ 2 ^ 64 ∧ t + 2 ^ m ≤ 2 ^ 64 := by have := HL.out; omega
      have HRL := Lib.hid hrel2
      clear hp2 hpp hlt hor0 ht hs64 hm64 hcast hw htt hst hmod hrel2
      by_cases hle : t * t ≤ a
      · have hcle : cmpN (t * t) a ≤ 0 := by unfold cmpN; repeat' split <;> omega
        generalize cmpN (t * t) a = rc at *
        have HCC := Lib.hid hcc
        have HLE := Lib.hid hle
        clear hcc hle
        go_wp2_with fail
        go_region_held3 (fun w' => w'.cell? ⟨w.heap.size, 0, none⟩ = some (.int .u64 ah) ∧ w'.cell? ⟨w.heap.size, 1, none⟩ = some (.int .u64 al)) (first | (go_simp; done) | (go_keep; done) | (refine ⟨?_, ?_⟩ <;> first | (go_simp; done) | (go_keep; done))) (first | (first | (go_at_call 36; refine (wMul_any t t _ h64 h64).mono ?_; rintro e w1 ⟨rfl, hb1⟩; have c0_0 := hb1.cell (p := ⟨w.heap.size, 0, none⟩) (by first | omega | (simp <;> omega)); have f0_0 := hb1.frozen (p := ⟨w.heap.size, 0, none⟩) (by first | omega | (simp <;> omega)); have c0_1 := hb1.cell (p := ⟨w.heap.size, 1, none⟩) (by first | omega | (simp <;> omega)); have f0_1 := hb1.frozen (p := ⟨w.heap.size, 1, none⟩) (by first | omega | (simp <;> omega)); have hz1 : wr.heap.size ≤ w1.heap.size := (by simpa using hb1.size); have HB1 := Lib.hid (HB.out.trans ((by (repeat (first | with_reducible exact Below.refl _ _ | ((with_reducible refine Below.setCell ?_ ?_ _); rotate_left; (focus (first | omega | (simp; done) | (simp; omega)))) | ((with_reducible refine Below.alloc ?_ ?_ _); rotate_left; (focus (first | omega | (simp; done) | (simp; omega)))) | (with_reducible refine Below.drew ?_) | (with_reducible refine below_drewN ?_ _))) : Below wr.heap.size wr _).trans hb1 |>.mono HB.out.size)); clear hb1) | (go_at_call 34; refine (HCC.out _).mono ?_; rintro e w2 ⟨rfl, hb2⟩; have c0_0 := hb2.cell (p := ⟨w.heap.size, 0, none⟩) (by first | omega | (simp <;> omega)); have f0_0 := hb2.frozen (p := ⟨w.heap.size, 0, none⟩) (by first | omega | (simp <;> omega)); have c0_1 := hb2.cell (p := ⟨w.heap.size, 1, none⟩) (by first | omega | (simp <;> omega)); have f0_1 := hb2.frozen (p := ⟨w.heap.size, 1, none⟩) (by first | omega | (simp <;> omega)); have hz2 : w1.heap.size ≤ w2.heap.size := (by simpa using hb2.size); have HB2 := Lib.hid (HB1.out.trans (hb2.mono HB1.out.size)); clear hb2)))
        go_wp2
        go_roundw
        case rel => exact ⟨m, t, by go_num, by omega, rfl, HM.out.2, HRL.out.2, by have := HST.out; rwa [if_pos HLE.out] at this, by go_simp, by go_simp, by omega, HB2.out⟩
        case measure => simp [intOf] <;> omega
      · have hcle : ¬ cmpN (t * t) a ≤ 0 := by unfold cmpN; repeat' split <;> omega
        generalize cmpN (t * t) a = rc at *
        have HCC := Lib.hid hcc
        have HLE := Lib.hid hle
        clear hcc hle
        go_wp2_with fail
        go_region_held3 (fun w' => w'.cell? ⟨w.heap.size, 0, none⟩ = some (.int .u64 ah) ∧ w'.cell? ⟨w.heap.size, 1, none⟩ = some (.int .u64 al)) (first | (go_simp; done) | (go_keep; done) | (refine ⟨?_, ?_⟩ <;> first | (go_simp; done) | (go_keep; done))) (first | (first | (go_at_call 36; refine (wMul_any t t _ h64 h64).mono ?_; rintro e w1 ⟨rfl, hb1⟩; have c0_0 := hb1.cell (p := ⟨w.heap.size, 0, none⟩) (by first | omega | (simp <;> omega)); have f0_0 := hb1.frozen (p := ⟨w.heap.size, 0, none⟩) (by first | omega | (simp <;> omega)); have c0_1 := hb1.cell (p := ⟨w.heap.size, 1, none⟩) (by first | omega | (simp <;> omega)); have f0_1 := hb1.frozen (p := ⟨w.heap.size, 1, none⟩) (by first | omega | (simp <;> omega)); have hz1 : wr.heap.size ≤ w1.heap.size := (by simpa using hb1.size); have HB1 := Lib.hid (HB.out.trans ((by (repeat (first | with_reducible exact Below.refl _ _ | ((with_reducible refine Below.setCell ?_ ?_ _); rotate_left; (focus (first | omega | (simp; done) | (simp; omega)))) | ((with_reducible refine Below.alloc ?_ ?_ _); rotate_left; (focus (first | omega | (simp; done) | (simp; omega)))) | (with_reducible refine Below.drew ?_) | (with_reducible refine below_drewN ?_ _))) : Below wr.heap.size wr _).trans hb1 |>.mono HB.out.size)); clear hb1) | (go_at_call 34; refine (HCC.out _).mono ?_; rintro e w2 ⟨rfl, hb2⟩; have c0_0 := hb2.cell (p := ⟨w.heap.size, 0, none⟩) (by first | omega | (simp <;> omega)); have f0_0 := hb2.frozen (p := ⟨w.heap.size, 0, none⟩) (by first | omega | (simp <;> omega)); have c0_1 := hb2.cell (p := ⟨w.heap.size, 1, none⟩) (by first | omega | (simp <;> omega)); have f0_1 := hb2.frozen (p := ⟨w.heap.size, 1, none⟩) (by first | omega | (simp <;> omega)); have hz2 : w1.heap.size ≤ w2.heap.size := (by simpa using hb2.size); have HB2 := Lib.hid (HB1.out.trans (hb2.mono HB1.out.size)); clear hb2)))
        go_wp2
        go_roundw
        case rel => exact ⟨m, s, by go_num, by omega, rfl, HM.out.1, HRL.out.1, by have := HST.out; rwa [if_neg HLE.out] at this, by go_simp, by go_simp, by omega, HB2.out⟩
        case measure => simp [intOf] <;> omega
end Go.Proofs.Yticpmcghdoiceaa
