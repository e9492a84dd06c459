/-
  The walk of math/bits.Div64.
-/
import Derived.Test.YtoljilbldkbjpaaBase
import Derived.Test.YtoljilbldkbjpaaShelf
import Derived.Test.YtoljilbldkbjpaaDivMath
import Derived.Deep.DeepCutAuto
import Derived.Deep.CutBlock
import Derived.Lib.ItoaNum
namespace Go.Proofs.Ytoljilbldkbjpaa
open Go.RowKit DivM

theorem ret2' {k k' : IntKind} {a b c d : Int} (h : a = c) (h' : b = d) : Ending.returned (.tuple #[.int k a, .int k' b]) = .returned (.tuple #[.int k c, .int k' d]) := by rw [h, h']

set_option maxRecDepth 100000 in
set_option maxHeartbeats 2000000 in
theorem div64_small (lo y : Nat) (w : World) (hlo : (lo : Int) ≤ 18446744073709551615) (hy : (y : Int) ≤ 18446744073709551615) (h0 : 0 < y) :
    Calls Try.prog 92 #[.int .u64 0, .int .u64 lo, .int .u64 y] w fun e w' => e = .returned (.tuple #[.int .u64 ((lo / y : Nat) : Int), .int .u64 ((lo % y : Nat) : Int)]) ∧ ∃ n, w' = w.drewN n := by
  have y0 : ((y : Int) == 0) = false := by simp; omega
  have y1 : (y : Int) ≠ 0 := by omega
  have hl : ¬ (y : Int) ≤ 0 := by omega
  go_enter Try.func92, Try.ntmps92
  go_wp2
  go_quiet (fail)
  go_wp2
  go_ret2
  refine ⟨ret2' ?_ ?_, _, rfl⟩
  · have e : (lo : Int) / (y : Int) = ((lo / y : Nat) : Int) := rfl
    have := Nat.div_le_self lo y
    rw [e, IntKind.wrap_u64]
    generalize lo / y = q at *
    omega
  · rfl

theorem and_low (n : Nat) (h : n < 18446744073709551616) : bits .and .u64 (n : Int) 4294967295 = ((n % 4294967296 : Nat) : Int) := by
  have := u64_and_nat n 4294967295 h (by omega)
  rw [show n &&& 4294967295 = n % 4294967296 from Nat.and_two_pow_sub_one_eq_mod n 32] at this
  exact this

theorem or_parts (a b s : Nat) (h : a * 2 ^ s < 18446744073709551616) (hb : b < 2 ^ s) (hle : b < 18446744073709551616) : bits .or .u64 ((a * 2 ^ s : Nat) : Int) (b : Int) = ((a * 2 ^ s + b : Nat) : Int) := by
  rw [u64_or_nat _ _ h hle, Nat.mul_comm, ← Nat.two_pow_add_eq_or_of_lt hb]

theorem shl_parts (lo s : Nat) (hs : s ≤ 64) : lo * 2 ^ s = lo / 2 ^ (64 - s) * 18446744073709551616 + lo * 2 ^ s % 18446744073709551616 := by
  have e : 2 ^ (64 - s) * 2 ^ s = 18446744073709551616 := by rw [← Nat.pow_add, Nat.sub_add_cancel hs]
  have h1 : lo * 2 ^ s / 18446744073709551616 = lo / 2 ^ (64 - s) := by
    rw [← e]; exact Nat.mul_div_mul_right _ _ (Nat.two_pow_pos s)
  rw [← h1]
  have := Nat.div_add_mod (lo * 2 ^ s) 18446744073709551616
  omega

structure Setup (hi lo y s v y1 y0 h' l' U L d1 d0 : Nat) : Prop where
  ev : IntKind.u64.wrap ((y : Int) * 2 ^ s) = (v : Int)
  ey1 : (v : Int) / 4294967296 = (y1 : Int)
  ey0 : bits .and .u64 (v : Int) 4294967295 = (y0 : Int)
  eh : IntKind.u64.wrap ((hi : Int) * 2 ^ s) = (h' : Int)
  el : (lo : Int) / 2 ^ (64 - s) = (l' : Int)
  eU : bits .or .u64 (h' : Int) (l' : Int) = (U : Int)
  eL : IntKind.u64.wrap ((lo : Int) * 2 ^ s) = (L : Int)
  ed1 : (L : Int) / 4294967296 = (d1 : Int)
  ed0 : bits .and .u64 (L : Int) 4294967295 = (d0 : Int)
  vv : v = y1 * 4294967296 + y0
  y0lt : y0 < 4294967296
  y1lo : 2147483648 ≤ y1
  y1lt : y1 < 4294967296
  Ult : U < v
  d1lt : d1 < 4294967296
  d0lt : d0 < 4294967296
  vy : v = y * 2 ^ s
  uu : (hi * 18446744073709551616 + lo) * 2 ^ s = (U * 4294967296 + d1) * 4294967296 + d0

theorem cast_pow (a s : Nat) : ((a : Int) * 2 ^ s) = ((a * 2 ^ s : Nat) : Int) := by simp

theorem setup {hi lo y s : Nat} (hlo : lo < 18446744073709551616) (h0 : hi < y) (hv1 : 9223372036854775808 ≤ y * 2 ^ s) (hv2 : y * 2 ^ s < 18446744073709551616) (hs : s ≤ 63) :
    ∃ v y1 y0 h' l' U L d1 d0, Setup hi lo y s v y1 y0 h' l' U L d1 d0 := by
  have hpos := Nat.two_pow_pos s
  have hh : (hi + 1) * 2 ^ s ≤ y * 2 ^ s := Nat.mul_le_mul_right _ h0
  have hh2 : hi * 2 ^ s + 2 ^ s ≤ y * 2 ^ s := by rw [Nat.add_mul, Nat.one_mul] at hh; exact hh
  have e64 : 2 ^ (64 - s) * 2 ^ s = 18446744073709551616 := by rw [← Nat.pow_add, Nat.sub_add_cancel (by omega)]
  have hl : lo / 2 ^ (64 - s) < 2 ^ s := Nat.div_lt_of_lt_mul (by rw [e64]; exact hlo)
  have hsp := shl_parts lo s (by omega)
  have hmod := Nat.mod_lt (lo * 2 ^ s) (show 0 < 18446744073709551616 by omega)
  refine ⟨y * 2 ^ s, y * 2 ^ s / 4294967296, y * 2 ^ s % 4294967296, hi * 2 ^ s, lo / 2 ^ (64 - s), hi * 2 ^ s + lo / 2 ^ (64 - s), lo * 2 ^ s % 18446744073709551616, lo * 2 ^ s % 18446744073709551616 / 4294967296, lo * 2 ^ s % 18446744073709551616 % 4294967296, ?_⟩
  refine { ev := ?_, ey1 := ?_, ey0 := ?_, eh := ?_, el := ?_, eU := ?_, eL := ?_, ed1 := ?_, ed0 := ?_, vv := ?_, y0lt := ?_, y1lo := ?_, y1lt := ?_, Ult := ?_, d1lt := ?_, d0lt := ?_, vy := rfl, uu := ?_ }
  · rw [cast_pow, IntKind.wrap_u64]; generalize y * 2 ^ s = v at *; omega
  · rfl
  · exact and_low _ hv2
  · rw [cast_pow, IntKind.wrap_u64]; generalize hi * 2 ^ s = v at *; omega
  · simp
  · exact or_parts _ _ _ (by omega) hl (Nat.lt_of_le_of_lt (Nat.div_le_self _ _) hlo)
  · rw [cast_pow, IntKind.wrap_u64]; rfl
  · rfl
  · exact and_low _ hmod
  · omega
  · exact Nat.mod_lt _ (by omega)
  · generalize y * 2 ^ s = v at *; omega
  · generalize y * 2 ^ s = v at *; omega
  · omega
  · omega
  · exact Nat.mod_lt _ (by omega)
  · rw [Nat.add_mul, hsp]
    generalize lo * 2 ^ s % 18446744073709551616 = L at *
    generalize lo / 2 ^ (64 - s) = l at *
    have : hi * 18446744073709551616 * 2 ^ s = hi * 2 ^ s * 18446744073709551616 := by rw [Nat.mul_right_comm]
    rw [this]
    generalize hi * 2 ^ s = h at *
    omega

set_option maxRecDepth 100000 in
set_option maxHeartbeats 4000000 in
theorem div64_big (hi lo y s : Nat) (w : World) (hlo : (lo : Int) ≤ 18446744073709551615) (hy : (y : Int) ≤ 18446744073709551615) (h0 : hi < y) (hp : 0 < hi) (hs : Lib.bitLen y + s = 64) (hv1 : 9223372036854775808 ≤ y * 2 ^ s) (hv2 : y * 2 ^ s < 18446744073709551616) (hs63 : s ≤ 63) :
    Calls Try.prog 92 #[.int .u64 hi, .int .u64 lo, .int .u64 y] w fun e w' => e = .returned (.tuple #[.int .u64 (((hi * 18446744073709551616 + lo) / y : Nat) : Int), .int .u64 (((hi * 18446744073709551616 + lo) % y : Nat) : Int)]) ∧ w = w' := by
  have y0' : ((y : Int) == 0) = false := by simp; omega
  have hz : ((hi : Int) == 0) = false := by simp; omega
  have hl : ¬ (y : Int) ≤ (hi : Int) := by omega
  have hlz : ∀ W : World, Calls Try.prog 103 #[.int .u64 y] W fun e w' => e = .returned (.int .i64 s) ∧ w' = W := fun W => by
    have := Try.bits_LeadingZeros64 y W (by omega) hy
    rwa [Int.toNat_natCast, show (64 : Int) - (Lib.bitLen y : Int) = (s : Int) by omega] at this
  have HLZ := Lib.hid hlz; clear hlz
  obtain ⟨v, y1, y0, h', l', U, L, d1, d0, S⟩ := setup (hi := hi) (lo := lo) (y := y) (s := s) (by omega) h0 hv1 hv2 hs63
  have hvpos : 0 < v := by have := S.vv; have := S.y1lo; omega
  have hG := guess_first (U := U) (d := d1) (y1 := y1) (y0 := y0) (by rw [← S.vv]; exact S.Ult) S.d1lt S.y0lt S.y1lo
  obtain ⟨q, hq⟩ : ∃ q, U / y1 = q := ⟨_, rfl⟩
  obtain ⟨r, hr⟩ : ∃ r, U % y1 = r := ⟨_, rfl⟩
  rw [hq, hr] at hG
  obtain ⟨p, hpp⟩ : ∃ p, q * y1 = p := ⟨_, rfl⟩
  have hpr : p + r = U := by rw [← hpp]; exact hG.sum
  have rlt : (r : Int) < 4294967296 := by have := Nat.mod_lt U (show 0 < y1 by have := S.y1lo; omega); rw [hr] at this; have := S.y1lt; omega
  have ev := S.ev; have ey1 := S.ey1; have ey0 := S.ey0; have eh := S.eh; have el := S.el; have eU := S.eU; have eL := S.eL; have ed1 := S.ed1; have ed0 := S.ed0
  have vlt : (v : Int) ≤ 18446744073709551615 := by have := S.vy; omega
  have Ult : (U : Int) ≤ 18446744073709551615 := by have := S.Ult; omega
  have d1lt : (d1 : Int) < 4294967296 := by have := S.d1lt; omega
  have d0lt : (d0 : Int) < 4294967296 := by have := S.d0lt; omega
  have y1lo : (1 : Int) ≤ (y1 : Int) := by have := S.y1lo; omega
  have y1lt : (y1 : Int) < 4294967296 := by have := S.y1lt; omega
  have y0lt : (y0 : Int) < 4294967296 := by have := S.y0lt; omega
  have eq1 : IntKind.u64.wrap ((U : Int) / (y1 : Int)) = (q : Int) := by
    have e : (U : Int) / (y1 : Int) = ((U / y1 : Nat) : Int) := rfl
    rw [e, hq, IntKind.wrap_u64]; have := hG.top; omega
  have eq2 : IntKind.u64.wrap ((q : Int) * (y1 : Int)) = (p : Int) := by
    have e : (q : Int) * (y1 : Int) = ((q * y1 : Nat) : Int) := by simp
    rw [e, hpp, IntKind.wrap_u64]; omega
  have eq3 : (U : Int) - (p : Int) = (r : Int) := by omega
  obtain ⟨Q1, hQ1⟩ : ∃ Q1, (U * 4294967296 + d1) / (y1 * 4294967296 + y0) = Q1 := ⟨_, rfl⟩
  have HQ1 := Lib.hid hQ1
  have HG := Lib.hid hG
  have HS := Lib.hid S
  clear hQ1 hG S hq hr hpp hpr
  have HH : Hid (hi < y ∧ 0 < hi ∧ Lib.bitLen y + s = 64) := ⟨h0, hp, hs⟩
  clear h0 hp hs
  go_enter Try.func92, Try.ntmps92
  go_upto_block 0 with (go_at_call 103; refine (HLZ.out _).mono ?_; rintro e w1 ⟨rfl, rfl⟩)
  clear ev ey1 ey0 eh el eU eL ed1 ed0 eq1 eq2 eq3 hv1 hv2
  go_cut [15] (fun s15 wx => s15 = .int .u64 (Q1 : Int) ∧ wx = w1)
  case first =>
    go_wp2
    go_loopw [15, 16] (fun a b wx => ∃ X T : Int, a = .int .u64 X ∧ b = .int .u64 T ∧ 0 ≤ X ∧ X ≤ 4294967297 ∧ 0 ≤ T ∧ T < 4294967296 ∧ Guess U d1 y1 y0 X.toNat T.toNat ∧ wx = w1) (fun a _ _ => (intOf a).toNat)
    case atStart => exact ⟨(q : Int), (r : Int), rfl, rfl, by omega, by have := HG.out.top; omega, by omega, by omega, by simpa using HG.out, rfl⟩
    case round =>
      obtain ⟨X, T, rfl, rfl, x0, x1, t0, t1, G, rfl⟩ := hrel
      have GG := Lib.hid G
      clear G
      obtain ⟨z, hz⟩ : ∃ z : Int, X * (y0 : Int) = z := ⟨_, rfl⟩
      have hzN : ((X.toNat * y0 : Nat) : Int) = z := by rw [← hz]; simp [Int.toNat_of_nonneg x0]
      have hzb : 0 ≤ z ∧ z ≤ 18446744073709551615 := by
        have h : X.toNat * y0 ≤ 4294967297 * 4294967295 := Nat.mul_le_mul (by omega) (by omega)
        omega
      have hw : IntKind.u64.wrap (X * (y0 : Int)) = z := by rw [hz, IntKind.wrap_u64]; omega
      have HZN := Lib.hid hzN
      clear hz hzN
      by_cases c : 4294967296 ≤ X ∨ 4294967296 * T + (d1 : Int) < z
      · have hov : (U * 4294967296 + d1) / (y1 * 4294967296 + y0) < X.toNat := by
          rcases c with c | c
          · exact Nat.lt_of_lt_of_le (digit_lt (by rw [← HS.out.vv]; exact HS.out.Ult) (by omega)) (by omega)
          · exact guess_over GG.out (by omega) (by have := HZN.out; omega)
        have G' := guess_down GG.out hov
        have xpos : 1 ≤ X := by
          have : 0 < X.toNat := Nat.lt_of_le_of_lt (Nat.zero_le _) hov
          clear hov; omega
        rw [show X.toNat - 1 = (X - 1).toNat by clear hov; omega, show T.toNat + y1 = (T + (y1 : Int)).toNat by clear hov; omega] at G'
        have HG' := Lib.hid G'
        clear G' hov
        by_cases hb : 4294967296 ≤ T + (y1 : Int)
        · have hend := guess_end HG'.out (by omega) (by omega) (by omega) (by omega)
          rw [HQ1.out] at hend
          have HE := Lib.hid hend; clear hend
          by_cases cc : 4294967296 ≤ X
          · clear c
            go_wp2
            go_meet
            exact ⟨by have := HE.out; go_num, rfl⟩
          · have c2 : 4294967296 * T + (d1 : Int) < z := by omega
            clear c
            go_wp2
            go_meet
            exact ⟨by have := HE.out; go_num, rfl⟩
        · by_cases cc : 4294967296 ≤ X
          · clear c
            go_wp2
            go_roundw
            case rel => exact ⟨X - 1, T + (y1 : Int), rfl, rfl, by omega, by omega, by omega, by omega, HG'.out, by first | rfl | trivial⟩
            case measure => simp [intOf] <;> omega
          · have c2 : 4294967296 * T + (d1 : Int) < z := by omega
            clear c
            go_wp2
            go_roundw
            case rel => exact ⟨X - 1, T + (y1 : Int), rfl, rfl, by omega, by omega, by omega, by omega, HG'.out, by first | rfl | trivial⟩
            case measure => simp [intOf] <;> omega
      · have cc : ¬ 4294967296 ≤ X := by omega
        have c2 : ¬ (4294967296 * T + (d1 : Int) < z) := by omega
        have hend := guess_right GG.out (by omega) (by have := HZN.out; omega)
        rw [HQ1.out] at hend
        have HE := Lib.hid hend; clear hend c
        go_wp2
        go_meet
        exact ⟨by have := HE.out; go_num, rfl⟩
  case rest =>
    obtain ⟨rfl, rfl⟩ := hcut
    have S := HS.out
    have hvp : 0 < y1 * 4294967296 + y0 := by omega
    obtain ⟨hr1, hr2⟩ := rest_eq (U := U) (d := d1) hvp HQ1.out.symm
    obtain ⟨R1, hR1⟩ : ∃ R1, (U * 4294967296 + d1) % (y1 * 4294967296 + y0) = R1 := ⟨_, rfl⟩
    rw [hR1, ← S.vv] at hr1 hr2
    have hQlt : Q1 < 4294967296 := by
      rw [← HQ1.out]; exact digit_lt (by rw [← S.vv]; exact S.Ult) S.d1lt
    have hG2 := guess_first (U := R1) (d := d0) (y1 := y1) (y0 := y0) (by rw [← S.vv]; exact hr2) S.d0lt S.y0lt S.y1lo
    obtain ⟨q2, hq2⟩ : ∃ q2, R1 / y1 = q2 := ⟨_, rfl⟩
    obtain ⟨r2, hr2'⟩ : ∃ r2, R1 % y1 = r2 := ⟨_, rfl⟩
    rw [hq2, hr2'] at hG2
    obtain ⟨p2, hp2⟩ : ∃ p2, q2 * y1 = p2 := ⟨_, rfl⟩
    have hpr2 : p2 + r2 = R1 := by rw [← hp2]; exact hG2.sum
    have r2lt : (r2 : Int) < 4294967296 := by have := Nat.mod_lt R1 (show 0 < y1 by have := S.y1lo; omega); rw [hr2'] at this; have := S.y1lt; omega
    have R1lt : (R1 : Int) ≤ 18446744073709551615 := by omega
    obtain ⟨P, hP⟩ : ∃ P, Q1 * v = P := ⟨_, rfl⟩
    rw [hP] at hr1
    obtain ⟨X1, hX1⟩ : ∃ X1, IntKind.u64.wrap ((U : Int) * 4294967296) = X1 := ⟨_, rfl⟩
    obtain ⟨X2, hX2⟩ : ∃ X2, IntKind.u64.wrap (X1 + (d1 : Int)) = X2 := ⟨_, rfl⟩
    obtain ⟨X3, hX3⟩ : ∃ X3, IntKind.u64.wrap ((Q1 : Int) * (v : Int)) = X3 := ⟨_, rfl⟩
    have hX4 : IntKind.u64.wrap (X2 - X3) = (R1 : Int) := by
      have e : (Q1 : Int) * (v : Int) = (P : Int) := by rw [← hP]; simp
      rw [← hX2, ← hX3, ← hX1, e]
      simp only [IntKind.wrap_u64]
      omega
    have eq1 : IntKind.u64.wrap ((R1 : Int) / (y1 : Int)) = (q2 : Int) := by
      have e : (R1 : Int) / (y1 : Int) = ((R1 / y1 : Nat) : Int) := rfl
      rw [e, hq2, IntKind.wrap_u64]; have := hG2.top; omega
    have eq2 : IntKind.u64.wrap ((q2 : Int) * (y1 : Int)) = (p2 : Int) := by
      have e : (q2 : Int) * (y1 : Int) = ((q2 * y1 : Nat) : Int) := by simp
      rw [e, hp2, IntKind.wrap_u64]; omega
    have eq3 : (R1 : Int) - (p2 : Int) = (r2 : Int) := by omega
    obtain ⟨Q0, hQ0⟩ : ∃ Q0, (R1 * 4294967296 + d0) / (y1 * 4294967296 + y0) = Q0 := ⟨_, rfl⟩
    have HQ0 := Lib.hid hQ0
    have HG2 := Lib.hid hG2
    have HR1 := Lib.hid hR1
    have HR2 := Lib.hid hr2
    have HQLT := Lib.hid hQlt
    clear hQ0 hG2 hR1 hr2 hQlt S hr1 hq2 hr2' hp2 hP hpr2
    go_upto_block 2 with (fail)
    clear hX1 hX2 hX3 hX4 eq1 eq2 eq3
    go_cut [18] (fun s18 wx => s18 = .int .u64 (Q0 : Int) ∧ wx = wc)
    case first =>
      go_wp2
      go_loopw [18, 16] (fun a b wx => ∃ X T : Int, a = .int .u64 X ∧ b = .int .u64 T ∧ 0 ≤ X ∧ X ≤ 4294967297 ∧ 0 ≤ T ∧ T < 4294967296 ∧ Guess R1 d0 y1 y0 X.toNat T.toNat ∧ wx = wc) (fun a _ _ => (intOf a).toNat)
      case atStart => exact ⟨(q2 : Int), (r2 : Int), rfl, rfl, by omega, by have := HG2.out.top; omega, by omega, by omega, by simpa using HG2.out, rfl⟩
      case round =>
        obtain ⟨X, T, rfl, rfl, x0, x1, t0, t1, G, rfl⟩ := hrel
        have GG := Lib.hid G
        clear G
        obtain ⟨z, hz⟩ : ∃ z : Int, X * (y0 : Int) = z := ⟨_, rfl⟩
        have hzN : ((X.toNat * y0 : Nat) : Int) = z := by rw [← hz]; simp [Int.toNat_of_nonneg x0]
        have hzb : 0 ≤ z ∧ z ≤ 18446744073709551615 := by
          have h : X.toNat * y0 ≤ 4294967297 * 4294967295 := Nat.mul_le_mul (by omega) (by omega)
          omega
        have hw : IntKind.u64.wrap (X * (y0 : Int)) = z := by rw [hz, IntKind.wrap_u64]; omega
        have HZN := Lib.hid hzN
        clear hz hzN
        by_cases c : 4294967296 ≤ X ∨ 4294967296 * T + (d0 : Int) < z
        · have hov : (R1 * 4294967296 + d0) / (y1 * 4294967296 + y0) < X.toNat := by
            rcases c with c | c
            · exact Nat.lt_of_lt_of_le (digit_lt (by rw [← HS.out.vv]; exact HR2.out) (by omega)) (by omega)
            · exact guess_over GG.out (by omega) (by have := HZN.out; omega)
          have G' := guess_down GG.out hov
          have xpos : 1 ≤ X := by
            have : 0 < X.toNat := Nat.lt_of_le_of_lt (Nat.zero_le _) hov
            clear hov; omega
          rw [show X.toNat - 1 = (X - 1).toNat by clear hov; omega, show T.toNat + y1 = (T + (y1 : Int)).toNat by clear hov; omega] at G'
          have HG' := Lib.hid G'
          clear G' hov
          by_cases hb : 4294967296 ≤ T + (y1 : Int)
          · have hend := guess_end HG'.out (by omega) (by omega) (by omega) (by omega)
            rw [HQ0.out] at hend
            have HE := Lib.hid hend; clear hend
            by_cases cc : 4294967296 ≤ X
            · clear c
              go_wp2
              go_meet
              exact ⟨by have := HE.out; go_num, rfl⟩
            · have c2 : 4294967296 * T + (d0 : Int) < z := by omega
              clear c
              go_wp2
              go_meet
              exact ⟨by have := HE.out; go_num, rfl⟩
          · by_cases cc : 4294967296 ≤ X
            · clear c
              go_wp2
              go_roundw
              case rel => exact ⟨X - 1, T + (y1 : Int), rfl, rfl, by omega, by omega, by omega, by omega, HG'.out, by first | rfl | trivial⟩
              case measure => simp [intOf] <;> omega
            · have c2 : 4294967296 * T + (d0 : Int) < z := by omega
              clear c
              go_wp2
              go_roundw
              case rel => exact ⟨X - 1, T + (y1 : Int), rfl, rfl, by omega, by omega, by omega, by omega, HG'.out, by first | rfl | trivial⟩
              case measure => simp [intOf] <;> omega
        · have cc : ¬ 4294967296 ≤ X := by omega
          have c2 : ¬ (4294967296 * T + (d0 : Int) < z) := by omega
          have hend := guess_right GG.out (by omega) (by have := HZN.out; omega)
          rw [HQ0.out] at hend
          have HE := Lib.hid hend; clear hend c
          go_wp2
          go_meet
          exact ⟨by have := HE.out; go_num, rfl⟩
    case rest =>
      obtain ⟨rfl, rfl⟩ := hcut
      have S := HS.out
      obtain ⟨hr1, hr2⟩ := rest_eq (U := R1) (d := d0) hvp HQ0.out.symm
      obtain ⟨R0, hR0⟩ : ∃ R0, (R1 * 4294967296 + d0) % (y1 * 4294967296 + y0) = R0 := ⟨_, rfl⟩
      rw [hR0, ← S.vv] at hr1 hr2
      have hQ0lt : Q0 < 4294967296 := by
        rw [← HQ0.out]; exact digit_lt (by rw [← S.vv]; exact HR2.out) S.d0lt
      obtain ⟨P0, hP0⟩ : ∃ P0, Q0 * v = P0 := ⟨_, rfl⟩
      rw [hP0] at hr1
      obtain ⟨Y1, hY1⟩ : ∃ Y1, IntKind.u64.wrap ((R1 : Int) * 4294967296) = Y1 := ⟨_, rfl⟩
      obtain ⟨Y2, hY2⟩ : ∃ Y2, IntKind.u64.wrap (Y1 + (d0 : Int)) = Y2 := ⟨_, rfl⟩
      obtain ⟨Y3, hY3⟩ : ∃ Y3, IntKind.u64.wrap ((Q0 : Int) * (v : Int)) = Y3 := ⟨_, rfl⟩
      have R0lt : (R0 : Int) ≤ 18446744073709551615 := by omega
      have hY4 : IntKind.u64.wrap (Y2 - Y3) = (R0 : Int) := by
        have e : (Q0 : Int) * (v : Int) = (P0 : Int) := by rw [← hP0]; simp
        rw [← hY2, ← hY3, ← hY1, e]
        simp only [IntKind.wrap_u64]
        omega
      have q1b : (Q1 : Int) < 4294967296 := by have := HQLT.out; omega
      have q0b : (Q0 : Int) < 4294967296 := by omega
      have hfin := two_digits (u := (hi * 18446744073709551616 + lo) * 2 ^ s) (v := v) (U := U) (d1 := d1) (d0 := d0) (q1 := Q1) (q0 := Q0) S.uu (by have := S.vv; omega) (by rw [S.vv]; exact HQ1.out.symm) (by have h1 := HR1.out; have h2 := HQ0.out; rw [← S.vv] at h1 h2; rw [h1]; exact h2.symm)
      have h3 := HR1.out
      rw [← S.vv] at h3 hR0
      rw [h3, hR0] at hfin
      obtain ⟨hf1, hf2⟩ := hfin
      obtain ⟨ds1, ds2⟩ := div_shift (hi * 18446744073709551616 + lo) y s
      rw [← S.vy] at ds1 ds2
      have HF : Hid ((hi * 18446744073709551616 + lo) / y = Q1 * 4294967296 + Q0 ∧ (hi * 18446744073709551616 + lo) % y = R0 / 2 ^ s) := ⟨by rw [← ds1, hf1], by rw [← ds2, hf2]⟩
      clear h3 hR0 hf1 hf2 ds1 ds2 hr1 hr2 hQ0lt hP0 S
      go_wp2
      go_ret2
      refine ⟨ret2' ?_ ?_, rfl⟩
      · rw [HF.out.1]; go_num
      · rw [HF.out.2]; simp

theorem div64_any (hi lo y : Nat) (w : World) (hlo : (lo : Int) ≤ 18446744073709551615) (hy : (y : Int) ≤ 18446744073709551615) (h0 : hi < y) :
    Calls Try.prog 92 #[.int .u64 hi, .int .u64 lo, .int .u64 y] w fun e w' => e = .returned (.tuple #[.int .u64 (((hi * 18446744073709551616 + lo) / y : Nat) : Int), .int .u64 (((hi * 18446744073709551616 + lo) % y : Nat) : Int)]) ∧ ∃ n, w' = w.drewN n := by
  rcases Nat.eq_zero_or_pos hi with h | h
  · subst h
    have := div64_small lo y w hlo hy h0
    simpa using this
  · obtain ⟨h1, h2, h3⟩ := Lib.bitLenAux_bounds 64 y (by omega) (by omega)
    have hk : Lib.bitLen y = Lib.bitLenAux 64 y := rfl
    rw [← hk] at h1 h2 h3
    obtain ⟨k, hkk⟩ : ∃ k, Lib.bitLen y = k := ⟨_, rfl⟩
    rw [hkk] at h1 h2 h3
    have hk64 : k ≤ 64 := by
      have h4 : 2 ^ (k - 1) < 2 ^ 64 := by omega
      have := (Nat.pow_lt_pow_iff_right (show 1 < 2 by omega)).1 h4
      omega
    have e1 : 2 ^ (k - 1) * 2 ^ (64 - k) = 2 ^ 63 := by rw [← Nat.pow_add]; congr 1; omega
    have e2 : 2 ^ k * 2 ^ (64 - k) = 2 ^ 64 := by rw [← Nat.pow_add]; congr 1; omega
    have g1 : 2 ^ (k - 1) * 2 ^ (64 - k) ≤ y * 2 ^ (64 - k) := Nat.mul_le_mul_right _ h2
    have g2 : (y + 1) * 2 ^ (64 - k) ≤ 2 ^ k * 2 ^ (64 - k) := Nat.mul_le_mul_right _ h3
    rw [Nat.add_mul, Nat.one_mul] at g2
    have hpos := Nat.two_pow_pos (64 - k)
    rw [e1] at g1
    rw [e2] at g2
    exact (div64_big hi lo y (64 - k) w hlo hy h0 h (by omega) (by omega) (by omega) (by omega)).mono fun e w' ⟨a, b⟩ => ⟨a, 0, b ▸ rfl⟩
end Go.Proofs.Ytoljilbldkbjpaa
