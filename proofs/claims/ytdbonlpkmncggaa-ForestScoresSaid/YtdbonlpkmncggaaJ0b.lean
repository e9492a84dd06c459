/-
  HarmB: Walks of copseref05: the average of a number of points.
  NumB: Walks of package num: quotients, products, the greatest divisor.
  NumC: Walks of package num: products and the greatest divisor.
  Digs: Plain laws on digits of base 65536.
  RefBig: Walks of copseref01's large numbers.
  Digs2: More plain laws on digits: differences, products, order.
  RefBig2: Walks of copseref01's large numbers, continued: differences, order.
  RefWhole: Walks of copseref01's whole numbers with a sign.
  RefTimes: Walks of copseref01: products.
  RefFits: Walks of copseref01: whole numbers back to numbers; sums, differences, products.
  RefTurn: Walks of copseref01: whole numbers turned, and multiplied.
  RefCalc: Walks of copseref01: sums, differences, products of numbers.
  RefDiv: Walks of copseref01: quotients, the greatest divisor, doublings.
  App1: Append of one element at a step of a region that draws its order.
-/
import Derived.Test.YtdbonlpkmncggaaJ0a
import Derived.Lib.ItoaNum
import Derived.Deep.RegionHeld3
namespace Go.Proofs.Ytdbonlpkmncggaa
open Go.RowKit

theorem rheld_any (n : Int) (w : World) : Calls Try.prog 121 #[.int .i64 n] w fun e w' => e = .returned (.int .i64 (heldN n)) ∧ w = w' := by
  have e := heldN_is n
  unfold clampI at e
  by_cases h1 : n < 0
  · rw [if_pos h1] at e
    rw [← e]
    clear e
    go_enter Try.func121, Try.ntmps121
    go_wp2
    go_ret
    exact ⟨rfl, rfl⟩
  · rw [if_neg h1] at e
    by_cases h2 : 256 < n
    · rw [if_pos h2] at e
      rw [← e]
      clear e
      go_enter Try.func121, Try.ntmps121
      go_wp2
      go_ret
      exact ⟨rfl, rfl⟩
    · rw [if_neg h2] at e
      rw [← e]
      clear e
      go_enter Try.func121, Try.ntmps121
      go_wp2
      go_ret
      exact ⟨rfl, rfl⟩

set_option maxRecDepth 100000 in
set_option maxHeartbeats 1000000 in
theorem rlow_any (n : Int) (w : World) : Calls Try.prog 122 #[.int .i64 n] w fun e w' => e = .returned (.int .i64 (lowN (heldN n))) ∧ w = w' := by
  have hc := fun W => rheld_any n W
  have hK := heldN_le n
  obtain ⟨K, hk⟩ : ∃ K, heldN n = K := ⟨_, rfl⟩
  rw [hk] at hc hK ⊢
  have HC := Lib.hid hc
  clear hc hk
  go_enter Try.func122, Try.ntmps122
  go_wp2_with fail
  go_loopw [3, 4] (fun a i wr => ∃ k : Nat, i = .int .i64 ((k : Int) + 1) ∧ k ≤ K ∧ a = .int .i64 (lowN k) ∧ w = wr) (fun _ i _ => K + 1 - (intOf i).toNat)
  case atStart => exact ⟨0, rfl, by omega, rfl, rfl⟩
  case round =>
    obtain ⟨k, rfl, hk, rfl, rfl⟩ := hrel
    by_cases hlt : k < K
    · have h1 := lowN_le k
      have h3 : (k : Int) + 1 ≤ K := by omega
      have h4 := Nat.div_le_self 1073741824 (k + 1)
      have e1 : lowN (k + 1) = lowN k + 1073741824 / (k + 1) := rfl
      obtain ⟨L, hL⟩ : ∃ L, lowN k = L := ⟨_, rfl⟩
      obtain ⟨q, hq⟩ : ∃ q, 1073741824 / (k + 1) = q := ⟨_, rfl⟩
      have hquo : Int.tdiv 1073741824 ((k : Int) + 1) = q := by rw [← hq]; rfl
      rw [hL] at h1 e1 ⊢
      rw [hq] at h4 e1
      have HE1 := Lib.hid e1
      have hk1 : ¬ (k : Int) + 1 = 0 := by omega
      have hkb : (k : Int) ≤ 256 := by omega
      have hLb : (L : Int) ≤ 274877906944 := by have : k * 1073741824 ≤ 256 * 1073741824 := Nat.mul_le_mul_right _ (by omega); omega
      have hqb : (q : Int) ≤ 1073741824 := by omega
      clear e1 hL hq h1 h4
      go_wp2_with fail
      refine (HC.out _).mono ?_
      rintro e w1 ⟨rfl, rfl⟩
      go_wp2_with fail
      go_roundw
      case rel => exact ⟨k + 1, by go_num, by omega, by rw [HE1.out]; go_num, trivial⟩
      case measure => simp [intOf] <;> omega
    · obtain rfl : k = K := by omega
      have h3 : ¬ (k : Int) + 1 ≤ k := by omega
      have hkb : (k : Int) ≤ 256 := by omega
      go_wp2_with fail
      refine (HC.out _).mono ?_
      rintro e w1 ⟨rfl, rfl⟩
      go_wp2_with fail
      go_ret
      exact ⟨rfl, rfl⟩

set_option maxRecDepth 100000 in
set_option maxHeartbeats 1000000 in
theorem rhigh_any (n : Int) (w : World) : Calls Try.prog 123 #[.int .i64 n] w fun e w' => e = .returned (.int .i64 ((lowN (heldN n) + brokN (heldN n) : Nat))) ∧ w = w' := by
  have hc := fun W => rheld_any n W
  have hK := heldN_le n
  obtain ⟨K, hk⟩ : ∃ K, heldN n = K := ⟨_, rfl⟩
  rw [hk] at hc hK ⊢
  have HC := Lib.hid hc
  clear hc hk
  go_enter Try.func123, Try.ntmps123
  go_wp2_with fail
  go_loopw [3, 4] (fun a i wr => ∃ k : Nat, i = .int .i64 ((k : Int) + 1) ∧ k ≤ K ∧ a = .int .i64 ((lowN k + brokN k : Nat) : Int) ∧ w = wr) (fun _ i _ => K + 1 - (intOf i).toNat)
  case atStart => exact ⟨0, rfl, by omega, rfl, rfl⟩
  case round =>
    obtain ⟨k, rfl, hk, rfl, rfl⟩ := hrel
    by_cases hlt : k < K
    · have h1 := lowN_le k
      have h2 := brokN_le k
      have h3 : (k : Int) + 1 ≤ K := by omega
      have h4 := ceil_is k
      have h5 := Nat.div_le_self 1073741824 (k + 1)
      have e1 : lowN (k + 1) + brokN (k + 1) = lowN k + brokN k + (1073741824 + (k + 1) - 1) / (k + 1) := by
        rw [h4, lowN, brokN]; omega
      obtain ⟨L, hL⟩ : ∃ L, lowN k + brokN k = L := ⟨_, rfl⟩
      obtain ⟨q, hq⟩ : ∃ q, (1073741824 + (k + 1) - 1) / (k + 1) = q := ⟨_, rfl⟩
      have hquo : Int.tdiv (1073741824 + ((k : Int) + 1) - 1) ((k : Int) + 1) = q := by
        rw [← hq, show (1073741824 : Int) + ((k : Int) + 1) - 1 = ((1073741824 + (k + 1) - 1 : Nat) : Int) by omega]; rfl
      have hqb : (q : Int) ≤ 1073741825 := by rw [hq] at h4; split at h4 <;> omega
      rw [hL] at e1 ⊢
      rw [hq] at e1
      have HE1 := Lib.hid e1
      have hk1 : ¬ (k : Int) + 1 = 0 := by omega
      have hkb : (k : Int) ≤ 256 := by omega
      have hLb : (L : Int) ≤ 374877906944 := by have : k * 1073741824 ≤ 256 * 1073741824 := Nat.mul_le_mul_right _ (by omega); omega
      clear e1 hL hq h1 h2 h4 h5
      go_wp2_with fail
      refine (HC.out _).mono ?_
      rintro e w1 ⟨rfl, rfl⟩
      go_wp2_with fail
      go_roundw
      case rel => exact ⟨k + 1, by go_num, by omega, by rw [HE1.out]; go_num, trivial⟩
      case measure => simp [intOf] <;> omega
    · obtain rfl : k = K := by omega
      have h3 : ¬ (k : Int) + 1 ≤ k := by omega
      have hkb : (k : Int) ≤ 256 := by omega
      go_wp2_with fail
      refine (HC.out _).mono ?_
      rintro e w1 ⟨rfl, rfl⟩
      go_wp2_with fail
      go_ret
      exact ⟨rfl, rfl⟩

set_option maxRecDepth 100000 in
set_option maxHeartbeats 1000000 in
theorem rends_any (n : Int) (w : World) : Calls Try.prog 111 #[.int .i64 n] w fun e w' => e = .returned (.tuple #[.int .i64 (loN (heldN n)), .int .i64 (hiN (heldN n))]) ∧ ∃ d, w' = w.drewN d := by
  have h1 := fun W => rheld_any n W
  have hK := heldN_le n
  obtain ⟨k, hk⟩ : ∃ K, heldN n = K := ⟨_, rfl⟩
  rw [hk] at h1 hK ⊢
  have e : heldN ((k : Int) - 1) = k - 1 := by unfold heldN clampI; repeat' split <;> omega
  have H1 := Lib.hid h1
  clear h1 hk
  by_cases h2 : k < 2
  · rw [loN, hiN, if_pos h2, if_pos h2]
    have h3 : (k : Int) < 2 := by omega
    clear e
    go_enter Try.func111, Try.ntmps111
    go_wp2_with fail
    refine (H1.out _).mono ?_
    rintro e w1 ⟨rfl, rfl⟩
    go_wp2_with fail
    exact bodyPost_ret (v := .tuple #[.int .i64 0, .int .i64 0]) (by simp [results, Try.results111, go_sem]) rfl ⟨rfl, 0, rfl⟩
  · have hl := fun W => rlow_any ((k : Int) - 1) W
    have hh := fun W => rhigh_any ((k : Int) - 1) W
    rw [e] at hl hh
    have hl1 := lowN_le (k - 1)
    have hb := brokN_le (k - 1)
    have hs := share_le (k := k) (by omega)
    have e1 : loN k = 2 * (lowN (k - 1) : Int) - ((2147483648 * (k - 1) + k - 1) / k : Nat) := if_neg h2
    have e2 : hiN k = 2 * ((lowN (k - 1) : Int) + brokN (k - 1)) - (2147483648 * (k - 1) / k : Nat) := if_neg h2
    rw [show 2 * ((lowN (k - 1) : Int) + brokN (k - 1)) = 2 * ((lowN (k - 1) + brokN (k - 1) : Nat) : Int) by omega] at e2
    obtain ⟨L, hL⟩ : ∃ L, lowN (k - 1) = L := ⟨_, rfl⟩
    obtain ⟨B, hB⟩ : ∃ B, lowN (k - 1) + brokN (k - 1) = B := ⟨_, rfl⟩
    obtain ⟨q, hq⟩ : ∃ q, 2147483648 * (k - 1) / k = q := ⟨_, rfl⟩
    obtain ⟨u, hu⟩ : ∃ u, (2147483648 * (k - 1) + k - 1) / k = u := ⟨_, rfl⟩
    obtain ⟨S, hS⟩ : ∃ S, 2147483648 * (k - 1) = S := ⟨_, rfl⟩
    have hSb : (S : Int) ≤ 547608330240 := by omega
    have hSi : (2147483648 : Int) * ((k : Int) - 1) = S := by omega
    rw [hq, hu] at hs
    rw [hS] at hq hu
    have hquo : Int.tdiv (S : Int) (k : Int) = q := by rw [← hq]; rfl
    have hquo2 : Int.tdiv ((S : Int) + k - 1) (k : Int) = u := by
      rw [← hu, show (S : Int) + k - 1 = ((S + k - 1 : Nat) : Int) by omega]; rfl
    have hLb : (L : Int) ≤ 274877906944 := by have : (k - 1) * 1073741824 ≤ 256 * 1073741824 := Nat.mul_le_mul_right _ (by omega); omega
    have hBb : (B : Int) ≤ 374877906944 := by omega
    rw [hL] at hl e1
    rw [hB] at hh e2
    rw [hS, hu] at e1
    rw [hS, hq] at e2
    rw [e1, e2]
    have hqb : (q : Int) ≤ 2147483647 := by omega
    have hub : (u : Int) ≤ 2147483648 := by omega
    have hk2 : (2 : Int) ≤ k := by omega
    have hkb : (k : Int) ≤ 256 := by omega
    have hk0 : ¬ (k : Int) = 0 := by omega
    have HL := Lib.hid hl; have HH := Lib.hid hh
    clear e1 e2 hL hB hq hu hS hl1 hb hs hl hh h2 hK e
    go_enter Try.func111, Try.ntmps111
    go_wp2_with fail
    refine (H1.out _).mono ?_
    rintro e w1 ⟨rfl, rfl⟩
    go_wp2_with fail
    go_quiet ((first | (go_at_call 122; exact quiet_left (HL.out _)) | (go_at_call 123; exact quiet_left (HH.out _))))
    go_wp2_with fail
    exact bodyPost_ret (v := .tuple #[.int .i64 (2 * (L : Int) - u), .int .i64 (2 * (B : Int) - q)]) (by simp [results, Try.results111, go_sem]) rfl ⟨rfl, _, rfl⟩

theorem rnorm_any (n : Int) (w : World) : Calls Try.prog 91 #[.int .i64 n] w fun e w' => e = .returned (.int .i64 (normI n)) ∧ ∃ d, w' = w.drewN d := by
  have h1 := fun W => rends_any n W
  have hb := norm_bd n
  have e : normI n = (loN (heldN n) + hiN (heldN n)) / 2 := rfl
  rw [e]
  generalize loN (heldN n) = lo at *
  generalize hiN (heldN n) = hi at *
  obtain ⟨b1, b2, b3, b4, b5, b6⟩ := hb
  have H1 := Lib.hid h1
  clear h1 e
  go_enter Try.func91, Try.ntmps91
  go_wp2_with fail
  refine (H1.out _).mono ?_
  rintro e w1 ⟨rfl, d, rfl⟩
  go_wp2_with fail
  go_ret
  exact ⟨rfl, _, rfl⟩
end Go.Proofs.Ytdbonlpkmncggaa

namespace Go.Proofs.Ytdbonlpkmncggaa
open Go.RowKit

theorem tmod_bd {a b : Int} (h0 : b ≠ 0) : a.tmod b < b.natAbs ∧ -(b.natAbs : Int) < a.tmod b := by
  have h1 := Int.emod_nonneg a h0
  have h2 := Int.emod_lt a h0
  rw [Int.tmod_eq_emod]
  split
  · omega
  · have h3 : a % b ≠ 0 := fun h => by
      have := Int.dvd_of_emod_eq_zero h
      simp_all
    omega

end Go.Proofs.Ytdbonlpkmncggaa

namespace Go.Proofs.Ytdbonlpkmncggaa
open Go.RowKit

def gcdZ (a b : Int) : Int := (Nat.gcd a.natAbs b.natAbs : Int)

theorem gcd_step (x y : Nat) : Nat.gcd x y = Nat.gcd y (x % y) := by
  rw [Nat.gcd_comm x y, Nat.gcd_rec, Nat.gcd_comm]

set_option maxHeartbeats 400000 in
theorem gcd_any (a b : Int) (w : World) (ha : Ok64 a) (hb : Ok64 b) :
    Calls Try.prog 83 #[.int .i64 a, .int .i64 b] w fun e w' => e = .returned (.tuple #[.int .i64 (fitV (gcdZ a b)), .int .i64 (fitE (gcdZ a b))]) ∧ ∃ n, w' = w.drewN n := by
  have hxa : (a.natAbs : Int) ≤ 18446744073709551615 := by have := ha.1; have := ha.2; omega
  have hxb : (b.natAbs : Int) ≤ 18446744073709551615 := by have := hb.1; have := hb.2; omega
  go_enter Try.func83, Try.ntmps83
  go_wp2_with (go_at_call 106; refine (size_any _ _ (by assumption)).mono ?_; rintro e w' ⟨rfl, rfl⟩)
  go_loopw [6, 7] (fun x y wr => ∃ (p q : Nat), x = .int .u64 p ∧ y = .int .u64 q ∧ (p : Int) ≤ 18446744073709551615 ∧ (q : Int) ≤ 18446744073709551615 ∧ Nat.gcd p q = Nat.gcd a.natAbs b.natAbs ∧ ∃ n, wr = w.drewN n) (fun _ y _ => (intOf y).toNat)
  case atStart => exact ⟨_, _, rfl, rfl, hxa, hxb, rfl, 0, rfl⟩
  case round =>
    obtain ⟨p, q, rfl, rfl, hp, hq, hg, n, rfl⟩ := hrel
    have HG := Lib.hid hg; clear hg
    by_cases h0 : 0 < q
    · have h0' : (q : Int) ≠ 0 := by omega
      go_wp2
      go_quiet (fail)
      go_wp2
      go_roundw
      case rel => exact ⟨q, p % q, rfl, by go_num, hq, by have := Nat.mod_lt p h0; omega, by rw [← gcd_step, HG.out], _, World.drewN_drewN _ _ _⟩
      case measure => have := Nat.mod_lt p h0; simp [intOf]; omega
    · obtain rfl : q = 0 := by omega
      have hz : gcdZ a b = p := by unfold gcdZ; rw [← HG.out]; simp
      by_cases hb : p ≤ 9223372036854775807
      · have HZ : Hid (Ok64 (gcdZ a b) ∧ gcdZ a b = p) := ⟨by unfold Ok64; omega, hz⟩
        clear hz
        go_wp2
        go_ret2
        exact ⟨ret2 (by rw [fitV_yes HZ.out.1, HZ.out.2]) (fitE_yes HZ.out.1).symm, _, rfl⟩
      · have HZ : Hid (¬ Ok64 (gcdZ a b)) := by show ¬ _; unfold Ok64; omega
        clear hz
        go_wp2
        go_ret2
        exact ⟨ret2 (fitV_no HZ.out).symm (fitE_no HZ.out).symm, _, rfl⟩
end Go.Proofs.Ytdbonlpkmncggaa

namespace Go.Proofs.Ytdbonlpkmncggaa
open Go.RowKit

def digsF : Nat → Nat → List Int
  | 0, _ => []
  | f + 1, n => if n = 0 then [] else ((n % 65536 : Nat) : Int) :: digsF f (n / 65536)
def digs (n : Nat) : List Int := digsF n n

theorem digsF_eq : ∀ (f g n : Nat), n ≤ f → n ≤ g → digsF f n = digsF g n := by
  intro f
  induction f with
  | zero => intro g n h _; have : n = 0 := by omega
            subst this; cases g <;> simp [digsF]
  | succ f ih =>
    intro g n h h'
    cases g with
    | zero => have : n = 0 := by omega
              subst this; simp [digsF]
    | succ g =>
      simp only [digsF]
      split
      · rfl
      · rw [ih g (n / 65536) (by omega) (by omega)]

theorem digs_zero : digs 0 = [] := rfl
theorem digs_pos {n : Nat} (h : 0 < n) : digs n = ((n % 65536 : Nat) : Int) :: digs (n / 65536) := by
  obtain ⟨f, rfl⟩ : ∃ f, n = f + 1 := ⟨n - 1, by omega⟩
  show digsF (f + 1) (f + 1) = _
  simp only [digsF]
  rw [if_neg (by omega)]
  unfold digs
  rw [digsF_eq f ((f + 1) / 65536) _ (by omega) (Nat.le_refl _)]

/-- The number of some digits. -/
def bv : List Int → Nat
  | [] => 0
  | d :: l => d.toNat + 65536 * bv l

def Dig (l : List Int) : Prop := ∀ d ∈ l, 0 ≤ d ∧ d ≤ 65535

theorem digs_dig (n : Nat) : Dig (digs n) := by
  induction n using Nat.strongRecOn with
  | _ n ih =>
    rcases Nat.eq_zero_or_pos n with h | h
    · subst h; intro d hd; simp [digs_zero] at hd
    · rw [digs_pos h]
      intro d hd
      rcases List.mem_cons.1 hd with h1 | h1
      · subst h1; omega
      · exact ih _ (by omega) d h1

theorem bv_digs (n : Nat) : bv (digs n) = n := by
  induction n using Nat.strongRecOn with
  | _ n ih =>
    rcases Nat.eq_zero_or_pos n with h | h
    · subst h; rfl
    · rw [digs_pos h]
      simp only [bv, ih (n / 65536) (by omega)]
      omega

/-- Digits with nothing at the top. -/
def Canon : List Int → Prop
  | [] => True
  | [d] => 0 < d
  | _ :: l => Canon l

theorem canon_cons {d : Int} {l : List Int} (h : l ≠ []) (hc : Canon l) : Canon (d :: l) := by
  cases l with
  | nil => exact absurd rfl h
  | cons e l => exact hc

theorem canon_digs (n : Nat) : Canon (digs n) := by
  induction n using Nat.strongRecOn with
  | _ n ih =>
    rcases Nat.eq_zero_or_pos n with h | h
    · subst h; trivial
    · rw [digs_pos h]
      rcases Nat.eq_zero_or_pos (n / 65536) with h1 | h1
      · rw [h1, digs_zero]; show 0 < _; omega
      · exact canon_cons (by rw [digs_pos h1]; simp) (ih _ (by omega))

theorem canon_pos {l : List Int} (h : Canon l) (hd : Dig l) (hne : l ≠ []) : 0 < bv l := by
  induction l with
  | nil => exact absurd rfl hne
  | cons d l ih =>
    have hd0 := hd d (by simp)
    cases l with
    | nil => simp only [bv]; have : 0 < d := h; omega
    | cons e l =>
      have := ih h (fun x hx => hd x (by simp [hx])) (by simp)
      simp only [bv] at this ⊢; omega

theorem digs_of_canon {l : List Int} (h : Canon l) (hd : Dig l) : l = digs (bv l) := by
  induction l with
  | nil => rfl
  | cons d l ih =>
    have hd0 := hd d (by simp)
    have hdl : Dig l := fun x hx => hd x (by simp [hx])
    have hp := canon_pos h hd (by simp)
    have hcl : Canon l := by cases l with
      | nil => trivial
      | cons e l => exact h
    rw [digs_pos hp]
    simp only [bv]
    have e1 : (d.toNat + 65536 * bv l) % 65536 = d.toNat := by omega
    have e2 : (d.toNat + 65536 * bv l) / 65536 = bv l := by omega
    rw [e1, e2, ← ih hcl hdl]
    congr 1
    omega

def trimL (l : List Int) : List Int := (l.reverse.dropWhile (· == 0)).reverse

theorem trimL_snoc_zero (l : List Int) : trimL (l ++ [0]) = trimL l := by simp [trimL]
theorem trimL_snoc_pos (l : List Int) {d : Int} (h : d ≠ 0) : trimL (l ++ [d]) = l ++ [d] := by simp [trimL, h]

theorem bv_append (l m : List Int) : bv (l ++ m) = bv l + 65536 ^ l.length * bv m := by
  induction l with
  | nil => simp [bv]
  | cons d l ih => simp only [List.cons_append, bv, ih, List.length_cons, Nat.pow_succ]; rw [Nat.mul_add, ← Nat.mul_assoc, Nat.mul_comm 65536 (65536 ^ l.length), Nat.add_assoc]

theorem snoc_cases (l : List Int) : l = [] ∨ ∃ m d, l = m ++ [d] := by
  rcases List.eq_nil_or_concat l with h | ⟨m, d, h⟩
  · exact .inl h
  · exact .inr ⟨m, d, by simpa using h⟩

theorem canon_snoc (l : List Int) {d : Int} (h : 0 < d) : Canon (l ++ [d]) := by
  induction l with
  | nil => exact h
  | cons e l ih => exact canon_cons (by simp) ih

theorem trimL_spec : ∀ (n : Nat) (l : List Int), l.length = n → Dig l → Canon (trimL l) ∧ Dig (trimL l) ∧ bv (trimL l) = bv l := by
  intro n
  induction n with
  | zero => intro l h _; have : l = [] := List.eq_nil_of_length_eq_zero h
            subst this; exact ⟨trivial, fun d hd => by simp [trimL] at hd, rfl⟩
  | succ n ih =>
    intro l h hd
    rcases snoc_cases l with rfl | ⟨m, d, rfl⟩
    · simp at h
    · by_cases h0 : d = 0
      · subst h0
        rw [trimL_snoc_zero]
        obtain ⟨h1, h2, h3⟩ := ih m (by simpa using h) (fun x hx => hd x (by simp [hx]))
        exact ⟨h1, h2, by rw [h3, bv_append]; simp [bv]⟩
      · rw [trimL_snoc_pos m h0]
        have := hd d (by simp)
        exact ⟨canon_snoc m (by omega), hd, rfl⟩

theorem trimL_digs {l : List Int} (hd : Dig l) : trimL l = digs (bv l) := by
  obtain ⟨h1, h2, h3⟩ := trimL_spec l.length l rfl hd
  rw [digs_of_canon h1 h2, h3]

/-- Two rows of digits together, with what is carried. -/
def addL : List Int → List Int → Int → List Int
  | [], [], c => if 0 < c then [c % 65536] else []
  | a :: xs, [], c => (a + c) % 65536 :: addL xs [] ((a + c) / 65536)
  | [], b :: ys, c => (b + c) % 65536 :: addL [] ys ((b + c) / 65536)
  | a :: xs, b :: ys, c => (a + b + c) % 65536 :: addL xs ys ((a + b + c) / 65536)

theorem addL_dig (xs ys : List Int) (c : Int) (ha : Dig xs) (hb : Dig ys) (hc : 0 ≤ c ∧ c ≤ 1) : Dig (addL xs ys c) ∧ bv (addL xs ys c) = bv xs + bv ys + c.toNat := by
  fun_induction addL xs ys c with
  | case1 c h => exact ⟨fun d hd => by simp at hd; subst hd; omega, by simp [bv]; omega⟩
  | case2 c h => exact ⟨fun d hd => by simp at hd, by simp [bv]; omega⟩
  | case3 a xs c ih =>
    have h0 := ha a (by simp)
    obtain ⟨h1, h2⟩ := ih (fun d hd => ha d (by simp [hd])) hb ⟨by omega, by omega⟩
    refine ⟨fun d hd => ?_, by simp only [bv, h2]; omega⟩
    rcases List.mem_cons.1 hd with h | h
    · subst h; omega
    · exact h1 d h
  | case4 b ys c ih =>
    have h0 := hb b (by simp)
    obtain ⟨h1, h2⟩ := ih ha (fun d hd => hb d (by simp [hd])) ⟨by omega, by omega⟩
    refine ⟨fun d hd => ?_, by simp only [bv, h2]; omega⟩
    rcases List.mem_cons.1 hd with h | h
    · subst h; omega
    · exact h1 d h
  | case5 a xs b ys c ih =>
    have h0 := ha a (by simp)
    have h0' := hb b (by simp)
    obtain ⟨h1, h2⟩ := ih (fun d hd => ha d (by simp [hd])) (fun d hd => hb d (by simp [hd])) ⟨by omega, by omega⟩
    refine ⟨fun d hd => ?_, by simp only [bv, h2]; omega⟩
    rcases List.mem_cons.1 hd with h | h
    · subst h; omega
    · exact h1 d h

theorem addL_digs (m n : Nat) : trimL (addL (digs m) (digs n) 0) = digs (m + n) := by
  obtain ⟨h1, h2⟩ := addL_dig (digs m) (digs n) 0 (digs_dig m) (digs_dig n) (by omega)
  rw [trimL_digs h1, h2, bv_digs, bv_digs]; rfl
end Go.Proofs.Ytdbonlpkmncggaa

namespace Go.Proofs.Ytdbonlpkmncggaa
open Go.RowKit
def BigR (w : World) (e : Ending) (w' : World) (n : Nat) : Prop := ∃ v, e = .returned v ∧ Ints .i64 w' v (digs n) ∧ Fresh w.heap.size v ∧ Below w.heap.size w w'

theorem digs_len (n : Nat) : ∀ k, n < 65536 ^ k → (digs n).length ≤ k := by
  induction n using Nat.strongRecOn with
  | _ n ih =>
    intro k hk
    rcases Nat.eq_zero_or_pos n with h | h
    · subst h; simp [digs_zero]
    · rw [digs_pos h]
      cases k with
      | zero => simp at hk; omega
      | succ k =>
        have := ih (n / 65536) (by omega) k (by rw [Nat.pow_succ] at hk; omega)
        simp; omega

set_option maxRecDepth 100000 in
set_option maxHeartbeats 400000 in
theorem of_any (n : Nat) (w : World) (hn : n < 18446744073709551616) :
    Calls Try.prog 128 #[.int .u64 n] w fun e w' => BigR w e w' n := by
  have HN := Lib.hid hn; clear hn
  go_enter Try.func128, Try.ntmps128
  go_wp2
  go_loopw [0, 3] (fun m v wr => ∃ (k : Nat) (l : List Int), m = .int .u64 k ∧ k ≤ n ∧ wr.ownsRow w.heap.size 3 1 v l.length (l.map (.int .i64)) ∧ digs n = l ++ digs k ∧ Below w.heap.size w wr) (fun m _ _ => (intOf m).toNat)
  case atStart => exact ⟨n, [], rfl, Nat.le_refl _, World.ownsRow_nil _ _ _ _, rfl, Below.refl _ _⟩
  case round =>
    obtain ⟨k, l, rfl, hk, hown, hl, hb⟩ := hrel
    have HL := Lib.hid hl; clear hl
    have hlen : l.length ≤ 4 := by
      have := digs_len n 4 (by simpa using HN.out)
      rw [HL.out, List.length_append] at this; omega
    have hk64 : k < 18446744073709551616 := Nat.lt_of_le_of_lt hk HN.out
    by_cases h0 : 0 < k
    · go_wp2_with (at_builtin; go_must (refine app1 rfl _ _ 140 rfl Try.underlying140 eiInt w.heap.size (by rfl) hown (by rfl) rfl (by simp [Value.oneCell']) (by omega) hb.size ?_))
      intro v' w' hown' hb' _
      go_wp2
      go_roundw
      case rel => 
        refine ⟨k / 65536, l ++ [((k % 65536 : Nat) : Int)], by go_num, by omega, ?_, ?_, hb.trans hb'⟩
        · simpa using hown'
        · rw [HL.out, digs_pos h0]; simp
      case measure => simp [intOf] <;> omega
    · go_wp2
      go_ret
      obtain rfl : k = 0 := by omega
      obtain ⟨h1, h2⟩ := Ints.own hown (by omega)
      exact ⟨_, rfl, by rw [HL.out, digs_zero, List.append_nil]; exact h2, Fresh.own hown, hb⟩

set_option maxHeartbeats 400000 in
theorem digit_any (v : Value) (l : List Int) (i : Nat) (w : World) (h : Ints .i64 w v l) :
    Calls Try.prog 133 #[v, .int .i64 i] w fun e w' => e = .returned (.int .i64 (l.getD i 0)) ∧ w = w' := by
  obtain ⟨a, c, rfl, _, _, h3, h⟩ := h
  have H := Lib.hid h; clear h
  by_cases hi : i < l.length
  · obtain ⟨x, hx⟩ := getElem?_ex hi
    obtain ⟨b1, o1, rfl, hb1, hc1⟩ := H.out i x hx
    have HX := Lib.hid hx; clear hx
    go_enter Try.func133, Try.ntmps133
    go_wp2
    go_ret
    refine ⟨ret_int ?_, rfl⟩
    simp [HX.out]
  · have : l.length ≤ i := by omega
    go_enter Try.func133, Try.ntmps133
    go_wp2
    go_ret
    refine ⟨ret_int ?_, rfl⟩
    simp [List.getElem?_eq_none this]

set_option maxHeartbeats 400000 in
theorem trim_any (v : Value) (l : List Int) (w : World) (h : Ints .i64 w v l) :
    Calls Try.prog 134 #[v] w fun e w' => ∃ v', e = .returned v' ∧ Ints .i64 w v' (trimL l) ∧ (∀ B, Fresh B v → Fresh B v') ∧ w = w' := by
  obtain ⟨a, c, rfl, h1, h2, h3, h⟩ := h
  have H := Lib.hid h; clear h
  go_enter Try.func134, Try.ntmps134
  go_wp2
  go_loop [3] (fun i => ∃ k : Nat, k ≤ l.length ∧ i = .int .i64 k ∧ trimL l = trimL (l.take k)) (fun i => (intOf i).toNat)
  case atStart => exact ⟨l.length, Nat.le_refl _, rfl, by simp⟩
  case round =>
    obtain ⟨k, hk, rfl, ht⟩ := hrel
    have HT := Lib.hid ht; clear ht
    by_cases h0 : 0 < k
    · obtain ⟨j, hj⟩ : ∃ j, k = j + 1 := ⟨k - 1, by omega⟩
      subst hj
      have hjl : j < l.length := by omega
      obtain ⟨x, hx⟩ := getElem?_ex hjl
      obtain ⟨b1, o1, rfl, hb1, hc1⟩ := H.out j x hx
      have HX := Lib.hid hx; clear hx
      have e1 : ((j + 1 : Nat) : Int) - 1 = j := by omega
      have E1 := Lib.hid e1; clear e1
      by_cases hx0 : x = 0
      · have hxb : (x == 0) = true := by simp [hx0]
        have HX0 := Lib.hid hx0; clear hx0
        go_wp2
        go_round
        case rel => exact ⟨j, by omega, rfl, by rw [HT.out, take_snoc' HX.out, HX0.out, trimL_snoc_zero]⟩
        case measure => simp [intOf] <;> omega
      · have hxb : (x == 0) = false := by simp [hx0]
        go_wp2
        go_ret
        refine ⟨_, rfl, ?_, fun B hB => hB.cut (by omega), rfl⟩
        have e : trimL l = l.take (j + 1) := by rw [HT.out, take_snoc' HX.out, trimL_snoc_pos _ hx0]
        rw [e]
        exact (Ints.take (l := l) (k := j + 1) ⟨_, _, rfl, h1, h2, h3, H.out⟩ (by omega)).2
    · obtain rfl : k = 0 := by omega
      go_wp2
      go_ret
      refine ⟨_, rfl, ?_, fun B hB => hB.cut (by omega), rfl⟩
      have e : trimL l = l.take 0 := by rw [HT.out]; simp [trimL]
      rw [e]
      exact (Ints.take (l := l) (k := 0) ⟨_, _, rfl, h1, h2, h3, H.out⟩ (by omega)).2

theorem drop_getD {l : List Int} {k : Nat} (h : k < l.length) : l.drop k = l.getD k 0 :: l.drop (k + 1) := by
  rw [List.drop_eq_getElem_cons h]; simp [List.getElem?_eq_getElem h]

theorem addL_step {la lb : List Int} {k : Nat} {c : Int} (hc : 0 ≤ c ∧ c ≤ 1) (h : k < la.length ∨ k < lb.length ∨ 0 < c) :
    addL (la.drop k) (lb.drop k) c = (la.getD k 0 + lb.getD k 0 + c) % 65536 :: addL (la.drop (k + 1)) (lb.drop (k + 1)) ((la.getD k 0 + lb.getD k 0 + c) / 65536) := by
  by_cases h1 : k < la.length
  · rw [drop_getD h1]
    by_cases h2 : k < lb.length
    · rw [drop_getD h2]; simp only [addL]
    · rw [List.drop_of_length_le (l := lb) (i := k) (by omega), List.drop_of_length_le (l := lb) (i := k + 1) (by omega)]
      have : lb.getD k 0 = 0 := by simp [List.getElem?_eq_none (Nat.le_of_not_lt h2)]
      rw [this]; simp only [addL, Int.add_zero]
  · have e1 : la.getD k 0 = 0 := by simp [List.getElem?_eq_none (Nat.le_of_not_lt h1)]
    rw [List.drop_of_length_le (l := la) (i := k) (by omega), List.drop_of_length_le (l := la) (i := k + 1) (by omega), e1]
    by_cases h2 : k < lb.length
    · rw [drop_getD h2]; simp only [addL, Int.zero_add]
    · have e2 : lb.getD k 0 = 0 := by simp [List.getElem?_eq_none (Nat.le_of_not_lt h2)]
      rw [List.drop_of_length_le (l := lb) (i := k) (by omega), List.drop_of_length_le (l := lb) (i := k + 1) (by omega), e2]
      have hc1 : c = 1 := by omega
      subst hc1; simp [addL]

theorem addL_end {la lb : List Int} {k : Nat} {c : Int} (h1 : ¬ k < la.length) (h2 : ¬ k < lb.length) (h3 : ¬ 0 < c) : addL (la.drop k) (lb.drop k) c = [] := by
  rw [List.drop_of_length_le (l := la) (i := k) (by omega), List.drop_of_length_le (l := lb) (i := k) (by omega)]
  simp [addL, h3]

theorem dig_getD {l : List Int} (h : Dig l) (k : Nat) : 0 ≤ l.getD k 0 ∧ l.getD k 0 ≤ 65535 := by
  by_cases hk : k < l.length
  · have := h _ (List.getElem_mem hk)
    simpa [List.getElem?_eq_getElem hk] using this
  · simp [List.getElem?_eq_none (Nat.le_of_not_lt hk)]

theorem addL_len (xs ys : List Int) (c : Int) : (addL xs ys c).length ≤ xs.length + ys.length + 1 := by
  fun_induction addL xs ys c <;> simp_all <;> omega

set_option maxRecDepth 100000 in
set_option maxHeartbeats 800000 in
theorem plusL_any (va vb : Value) (la lb : List Int) (w : World) (ha : Ints .i64 w va la) (hb : Ints .i64 w vb lb) (da : Dig la) (db : Dig lb) (hla : la.length + lb.length ≤ 1000000) :
    Calls Try.prog 130 #[va, vb] w fun e w' => ∃ v, e = .returned v ∧ Ints .i64 w' v (trimL (addL la lb 0)) ∧ Fresh w.heap.size v ∧ Below w.heap.size w w' := by
  have ha0 := Lib.hid ha
  have hb0 := Lib.hid hb
  obtain ⟨aa, ca, rfl, _, _, h3, _⟩ := ha
  obtain ⟨ab, cb, rfl, _, _, h3', _⟩ := hb
  have hlen := addL_len la lb 0
  go_enter Try.func130, Try.ntmps130
  go_wp2
  go_loopw [5, 6, 7] (fun v c i wr => ∃ (k : Nat) (l : List Int) (cc : Int), i = .int .i64 k ∧ c = .int .i64 cc ∧ 0 ≤ cc ∧ cc ≤ 1 ∧ l.length = k ∧ wr.ownsRow w.heap.size 3 1 v l.length (l.map (.int .i64)) ∧ addL la lb 0 = l ++ addL (la.drop k) (lb.drop k) cc ∧ Below w.heap.size w wr) (fun _ _ i _ => (addL la lb 0).length - (intOf i).toNat)
  case atStart => exact ⟨0, [], 0, rfl, rfl, by omega, by omega, rfl, World.ownsRow_nil _ _ _ _, rfl, Below.refl _ _⟩
  case round =>
    obtain ⟨k, l, cc, rfl, rfl, hc0, hc1, hlk, hown, hl, hbl⟩ := hrel
    have hkk : k ≤ la.length + lb.length + 1 := by
      have := congrArg List.length hl; simp at this; omega
    have hll : l.length ≤ la.length + lb.length + 1 := by omega
    have HL := Lib.hid hl; clear hl
    have HK := Lib.hid hlk; clear hlk
    obtain ⟨x, hx⟩ : ∃ x, la.getD k 0 = x := ⟨_, rfl⟩
    obtain ⟨y, hy⟩ : ∃ y, lb.getD k 0 = y := ⟨_, rfl⟩
    have hxb := dig_getD da k
    have hyb := dig_getD db k
    rw [hx] at hxb; rw [hy] at hyb
    have HX := Lib.hid hx; clear hx
    have HY := Lib.hid hy; clear hy
    by_cases hg : k < la.length ∨ k < lb.length ∨ 0 < cc
    · have hst := addL_step ⟨hc0, hc1⟩ hg
      rw [HX.out, HY.out] at hst
      have hkt : k < (addL la lb 0).length := by rw [HL.out, List.length_append, hst, HK.out]; simp
      have HS := Lib.hid hst; clear hst
      have hparts : k < la.length ∨ (la.length ≤ k ∧ k < lb.length) ∨ (la.length ≤ k ∧ lb.length ≤ k ∧ 0 < cc) := by omega
      clear hg
      rcases hparts with h1 | ⟨h1, h2⟩ | ⟨h1, h2, h4⟩
      all_goals
        go_wp2_with fail
        refine (digit_any _ la k _ (ha0.out.below hbl)).mono ?_
        rw [HX.out]; rintro e w1 ⟨rfl, rfl⟩
        go_wp2_with fail
        refine (digit_any _ lb k _ (hb0.out.below hbl)).mono ?_
        rw [HY.out]; rintro e w1 ⟨rfl, rfl⟩
        go_wp2_with (at_builtin; go_must (refine app1 rfl _ _ 140 rfl Try.underlying140 eiInt w.heap.size (by rfl) hown (by rfl) rfl (by simp [Value.oneCell']) (by omega) hbl.size ?_))
        intro v' w' hown' hb' _
        go_wp2
        go_roundw
        case rel =>
          refine ⟨k + 1, l ++ [(x + y + cc) % 65536], (x + y + cc) / 65536, by go_num, rfl, by omega, by omega, by simp [HK.out], ?_, ?_, hbl.trans hb'⟩
          · simpa using hown'
          · rw [HL.out, HS.out]; simp
        case measure => simp [intOf] <;> omega
    · have hend := addL_end (la := la) (lb := lb) (k := k) (c := cc) (by omega) (by omega) (by omega)
      have he := HL.out
      rw [hend, List.append_nil] at he
      have HE := Lib.hid he; clear he hend
      obtain ⟨h1, h2, h4⟩ : la.length ≤ k ∧ lb.length ≤ k ∧ cc ≤ 0 := by omega
      clear hg
      obtain ⟨g1, g2⟩ := Ints.own hown (by have := HK.out; omega)
      go_wp2_with fail
      refine (trim_any _ l _ g2).mono ?_
      rintro e w1 ⟨v', rfl, hv', hfr, rfl⟩
      go_wp2
      go_ret
      exact ⟨v', rfl, by rw [HE.out]; exact hv', hfr _ (Fresh.own hown), hbl⟩

theorem plus_any (va vb : Value) (m n : Nat) (w : World) (ha : Ints .i64 w va (digs m)) (hb : Ints .i64 w vb (digs n)) (hm : (digs m).length + (digs n).length ≤ 1000000) :
    Calls Try.prog 130 #[va, vb] w fun e w' => BigR w e w' (m + n) :=
  (plusL_any va vb _ _ w ha hb (digs_dig m) (digs_dig n) hm).mono fun e w' ⟨v, h1, h2, h3⟩ => ⟨v, h1, by rw [← addL_digs]; exact h2, h3⟩
end Go.Proofs.Ytdbonlpkmncggaa

namespace Go.Proofs.Ytdbonlpkmncggaa
open Go.RowKit

def subL : List Int → List Int → Int → List Int
  | [], _, _ => []
  | a :: xs, ys, c => if a - ys.headD 0 - c < 0 then (a - ys.headD 0 - c + 65536) :: subL xs ys.tail 1 else (a - ys.headD 0 - c) :: subL xs ys.tail 0

theorem bv_head (l : List Int) : bv l = (l.headD 0).toNat + 65536 * bv l.tail := by cases l <;> rfl
theorem dig_head {l : List Int} (h : Dig l) : 0 ≤ l.headD 0 ∧ l.headD 0 ≤ 65535 := by
  cases l with
  | nil => simp
  | cons a l => exact h a (by simp)
theorem dig_tail {l : List Int} (h : Dig l) : Dig l.tail := by
  cases l with
  | nil => exact h
  | cons a l => exact fun d hd => h d (by simp at hd; simp [hd])

theorem subL_spec : ∀ (xs ys : List Int) (c : Int), Dig xs → Dig ys → 0 ≤ c → c ≤ 1 → bv ys + c.toNat ≤ bv xs → Dig (subL xs ys c) ∧ bv (subL xs ys c) + bv ys + c.toNat = bv xs := by
  intro xs
  induction xs with
  | nil =>
    intro ys c _ _ _ _ h
    simp only [bv] at h
    exact ⟨fun d hd => by simp [subL] at hd, by simp only [subL, bv]; omega⟩
  | cons a xs ih =>
    intro ys c hx hy h0 h1 h
    have ha := hx a (by simp)
    have hb := dig_head hy
    rw [bv_head ys] at h ⊢
    simp only [bv] at h ⊢
    simp only [subL]
    split
    · obtain ⟨g1, g2⟩ := ih ys.tail 1 (fun d hd => hx d (by simp [hd])) (dig_tail hy) (by omega) (by omega) (by omega)
      refine ⟨fun d hd => ?_, by simp only [bv]; omega⟩
      rcases List.mem_cons.1 hd with h | h
      · subst h; omega
      · exact g1 d h
    · obtain ⟨g1, g2⟩ := ih ys.tail 0 (fun d hd => hx d (by simp [hd])) (dig_tail hy) (by omega) (by omega) (by omega)
      refine ⟨fun d hd => ?_, by simp only [bv]; omega⟩
      rcases List.mem_cons.1 hd with h | h
      · subst h; omega
      · exact g1 d h

theorem subL_digs {m n : Nat} (h : n ≤ m) : trimL (subL (digs m) (digs n) 0) = digs (m - n) := by
  obtain ⟨h1, h2⟩ := subL_spec (digs m) (digs n) 0 (digs_dig m) (digs_dig n) (by omega) (by omega) (by rw [bv_digs, bv_digs]; simpa using h)
  rw [bv_digs, bv_digs] at h2
  rw [trimL_digs h1, show bv (subL (digs m) (digs n) 0) = m - n by simp at h2; omega]

theorem bv_lt {l : List Int} (h : Dig l) : bv l < 65536 ^ l.length := by
  induction l with
  | nil => simp [bv]
  | cons d l ih =>
    have h0 := h d (by simp)
    have := ih (fun x hx => h x (by simp [hx]))
    simp only [bv, List.length_cons, Nat.pow_succ]
    omega

theorem dig_take {l : List Int} (h : Dig l) (k : Nat) : Dig (l.take k) := fun d hd => h d (List.mem_of_mem_take hd)

theorem digs_lt_pow (n : Nat) : n < 65536 ^ (digs n).length := by
  have := bv_lt (digs_dig n)
  rwa [bv_digs] at this

theorem canon_ge : ∀ {l : List Int}, Canon l → Dig l → l ≠ [] → 65536 ^ (l.length - 1) ≤ bv l := by
  intro l
  induction l with
  | nil => intro _ _ h; exact absurd rfl h
  | cons d l ih =>
    intro hc hd _
    cases l with
    | nil => have : 0 < d := hc; simp [bv]; omega
    | cons e l =>
      have := ih hc (fun x hx => hd x (by simp [hx])) (by simp)
      simp only [List.length_cons, Nat.add_sub_cancel, bv, Nat.pow_succ] at this ⊢
      omega

theorem digs_len_lt {m n : Nat} (h : (digs m).length < (digs n).length) : m < n := by
  have h1 := digs_lt_pow m
  have h2 := canon_ge (canon_digs n) (digs_dig n) (by intro h0; rw [h0] at h; simp at h)
  rw [bv_digs] at h2
  have h3 : 65536 ^ (digs m).length ≤ 65536 ^ ((digs n).length - 1) := Nat.pow_le_pow_right (by omega) (by omega)
  omega

theorem bv_split {l : List Int} {k : Nat} {x : Int} (h : l[k]? = some x) : bv l = bv (l.take k) + 65536 ^ k * (x.toNat + 65536 * bv (l.drop (k + 1))) := by
  have hk : k < l.length := (List.getElem?_eq_some_iff.1 h).1
  have e : l = l.take k ++ (x :: l.drop (k + 1)) := by
    have hxx : l[k]'hk = x := (List.getElem?_eq_some_iff.1 h).2
    rw [← hxx, ← List.drop_eq_getElem_cons hk, List.take_append_drop]
  have := congrArg bv e
  rw [bv_append, List.length_take, Nat.min_eq_left (by omega)] at this
  simpa [bv] using this

theorem bv_lt_of {la lb : List Int} {k : Nat} {x y : Int} (da : Dig la) (db : Dig lb) (hx : la[k]? = some x) (hy : lb[k]? = some y) (hd : la.drop (k + 1) = lb.drop (k + 1)) (h : x < y) : bv la < bv lb := by
  rw [bv_split hx, bv_split hy, hd]
  have hk : k < la.length := (List.getElem?_eq_some_iff.1 hx).1
  have h1 := bv_lt (dig_take da k)
  rw [List.length_take, Nat.min_eq_left (by omega)] at h1
  have hx0 := da x (List.mem_of_getElem? hx)
  have hy0 := db y (List.mem_of_getElem? hy)
  have h2 : 65536 ^ k * (x.toNat + 65536 * bv (lb.drop (k + 1)) + 1) ≤ 65536 ^ k * (y.toNat + 65536 * bv (lb.drop (k + 1))) := Nat.mul_le_mul_left _ (by omega)
  rw [Nat.mul_add _ _ 1] at h2
  omega

def ordI (m n : Nat) : Int := if m < n then -1 else if n < m then 1 else 0

end Go.Proofs.Ytdbonlpkmncggaa

namespace Go.Proofs.Ytdbonlpkmncggaa
open Go.RowKit

theorem subL_step {la lb : List Int} {k : Nat} {c x y : Int} (hx : la[k]? = some x) (hy : lb.getD k 0 = y) :
    subL (la.drop k) (lb.drop k) c = if x - y - c < 0 then (x - y - c + 65536) :: subL (la.drop (k + 1)) (lb.drop (k + 1)) 1 else (x - y - c) :: subL (la.drop (k + 1)) (lb.drop (k + 1)) 0 := by
  have hk : k < la.length := (List.getElem?_eq_some_iff.1 hx).1
  have e1 : (lb.drop k).headD 0 = y := by rw [← hy]; simp
  have e2 : (lb.drop k).tail = lb.drop (k + 1) := by simp
  have e3 : la.drop k = x :: la.drop (k + 1) := by rw [drop_getD hk, getD_of hx]
  rw [e3]
  simp only [subL, e1, e2]

set_option maxRecDepth 100000 in
set_option maxHeartbeats 800000 in
theorem minusL_any (va vb : Value) (la lb : List Int) (w : World) (ha : Ints .i64 w va la) (hb : Ints .i64 w vb lb) (da : Dig la) (db : Dig lb) (hla : la.length ≤ 1000000) :
    Calls Try.prog 131 #[va, vb] w fun e w' => ∃ v, e = .returned v ∧ Ints .i64 w' v (trimL (subL la lb 0)) ∧ Fresh w.heap.size v ∧ Below w.heap.size w w' := by
  have ha0 := Lib.hid ha
  have hb0 := Lib.hid hb
  obtain ⟨aa, ca, rfl, _, _, h3, hA⟩ := ha
  obtain ⟨ab, cb, rfl, _, _, h3', _⟩ := hb
  have HA := Lib.hid hA; clear hA
  go_enter Try.func131, Try.ntmps131
  go_wp2
  go_loopw [5, 6, 7] (fun v c i wr => ∃ (k : Nat) (l : List Int) (cc : Int), i = .int .i64 k ∧ c = .int .i64 cc ∧ 0 ≤ cc ∧ cc ≤ 1 ∧ l.length = k ∧ k ≤ la.length ∧ wr.ownsRow w.heap.size 3 1 v l.length (l.map (.int .i64)) ∧ subL la lb 0 = l ++ subL (la.drop k) (lb.drop k) cc ∧ Below w.heap.size w wr) (fun _ _ i _ => la.length - (intOf i).toNat)
  case atStart => exact ⟨0, [], 0, rfl, rfl, by omega, by omega, rfl, by omega, World.ownsRow_nil _ _ _ _, rfl, Below.refl _ _⟩
  case round =>
    obtain ⟨k, l, cc, rfl, rfl, hc0, hc1, hlk, hkl, hown, hl, hbl⟩ := hrel
    have hll : l.length ≤ la.length := by omega
    have HL := Lib.hid hl; clear hl
    have HK := Lib.hid hlk; clear hlk
    by_cases hg : k < la.length
    · obtain ⟨x, hx⟩ := getElem?_ex hg
      obtain ⟨y, hy⟩ : ∃ y, lb.getD k 0 = y := ⟨_, rfl⟩
      have hxb := da x (List.mem_of_getElem? hx)
      have hyb := dig_getD db k
      rw [hy] at hyb
      obtain ⟨b1, o1, rfl, hb1, hc1'⟩ := HA.out k x hx
      have hcell := (hbl.cell (p := ⟨b1, o1 + k, none⟩) hb1).trans hc1'
      clear hc1'
      have hst := subL_step (c := cc) hx hy
      have HS := Lib.hid hst; clear hst
      have hdig : ∀ n, Calls Try.prog 133 #[.slice ab lb.length cb, .int .i64 k] (wr.drewN n) fun e w' => e = .returned (.int .i64 y) ∧ wr.drewN n = w' := fun n => by
        have := digit_any _ lb k _ ((hb0.out.below hbl).drewN n)
        rw [hy] at this; exact this
      have HDG := Lib.hid hdig; clear hdig
      have HX := Lib.hid hx; clear hx
      have HY := Lib.hid hy; clear hy
      go_wp2
      go_quiet ((go_at_call 133; exact quiet_left (HDG.out _)))
      by_cases hneg : x - y - cc < 0
      all_goals
        go_wp2_with (at_builtin; go_must (refine app1 rfl _ _ 140 rfl Try.underlying140 eiInt w.heap.size (by rfl) hown (by rfl) rfl (by simp [Value.oneCell']) (by omega) hbl.size ?_))
        intro v' w' hown' hb' _
        go_wp2
        go_roundw
        case rel => first
          | exact ⟨k + 1, l ++ [x - y - cc + 65536], 1, by go_num, rfl, by omega, by omega, by simp [HK.out], by omega, by simpa using hown', by rw [HL.out, HS.out, if_pos (by omega)]; simp, (below_drewN hbl nq).trans hb'⟩
          | exact ⟨k + 1, l ++ [x - y - cc], 0, by go_num, rfl, by omega, by omega, by simp [HK.out], by omega, by simpa using hown', by rw [HL.out, HS.out, if_neg (by omega)]; simp, (below_drewN hbl nq).trans hb'⟩
        case measure => simp [intOf] <;> omega
    · obtain rfl : k = la.length := by omega
      have he := HL.out
      rw [List.drop_of_length_le (l := la) (Nat.le_refl _)] at he
      simp only [subL, List.append_nil] at he
      have HE := Lib.hid he; clear he
      obtain ⟨g1, g2⟩ := Ints.own hown (by omega)
      go_wp2_with fail
      refine (trim_any _ l _ g2).mono ?_
      rintro e w1 ⟨v', rfl, hv', hfr, rfl⟩
      go_wp2
      go_ret
      exact ⟨v', rfl, by rw [HE.out]; exact hv', hfr _ (Fresh.own hown), hbl⟩

theorem minus_any (va vb : Value) (m n : Nat) (w : World) (ha : Ints .i64 w va (digs m)) (hb : Ints .i64 w vb (digs n)) (hm : (digs m).length ≤ 1000000) (hle : n ≤ m) :
    Calls Try.prog 131 #[va, vb] w fun e w' => BigR w e w' (m - n) :=
  (minusL_any va vb _ _ w ha hb (digs_dig m) (digs_dig n) hm).mono fun e w' ⟨v, h1, h2, h3⟩ => ⟨v, h1, by rw [← subL_digs hle]; exact h2, h3⟩

set_option maxHeartbeats 800000 in
theorem order_any (va vb : Value) (m n : Nat) (w : World) (ha : Ints .i64 w va (digs m)) (hb : Ints .i64 w vb (digs n)) :
    Calls Try.prog 129 #[va, vb] w fun e w' => e = .returned (.int .i64 (ordI m n)) ∧ ∃ d, w' = w.drewN d := by
  obtain ⟨la, hla⟩ : ∃ la, digs m = la := ⟨_, rfl⟩
  obtain ⟨lb, hlb⟩ : ∃ lb, digs n = lb := ⟨_, rfl⟩
  rw [hla] at ha
  rw [hlb] at hb
  have MA : Hid (digs m = la) := hla
  have MB : Hid (digs n = lb) := hlb
  have da : Dig la := by rw [← hla]; exact digs_dig m
  have db : Dig lb := by rw [← hlb]; exact digs_dig n
  have va' : bv la = m := by rw [← hla]; exact bv_digs m
  have vb' : bv lb = n := by rw [← hlb]; exact bv_digs n
  have VA := Lib.hid va'; clear va'
  have VB := Lib.hid vb'; clear vb'
  have DA := Lib.hid da; clear da
  have DB := Lib.hid db; clear db
  have hlen1 : la.length < lb.length → m < n := fun h => digs_len_lt (by rw [hla, hlb]; exact h)
  have hlen2 : lb.length < la.length → n < m := fun h => digs_len_lt (by rw [hla, hlb]; exact h)
  have H1 := Lib.hid hlen1; clear hlen1
  have H2 := Lib.hid hlen2; clear hlen2
  clear hla hlb
  obtain ⟨aa, ca, rfl, _, _, h3, hA⟩ := ha
  obtain ⟨ab, cb, rfl, _, _, h3', hB⟩ := hb
  have HA := Lib.hid hA; clear hA
  have HB := Lib.hid hB; clear hB
  obtain ⟨q, hq⟩ : ∃ q, lb.length = q := ⟨_, rfl⟩
  rw [hq] at h3' ⊢
  have HQ := Lib.hid hq; clear hq
  by_cases hl : la.length = q
  · obtain rfl := hl
    have hb : ((la.length : Int) != la.length) = false := by simp
    go_enter Try.func129, Try.ntmps129
    go_wp2
    go_loopw [5] (fun i wr => ∃ k : Nat, k ≤ la.length ∧ i = .int .i64 ((k : Int) - 1) ∧ la.drop k = lb.drop k ∧ ∃ d, wr = w.drewN d) (fun i _ => (intOf i + 1).toNat)
    case atStart => exact ⟨la.length, Nat.le_refl _, rfl, by rw [List.drop_of_length_le (Nat.le_refl _), List.drop_of_length_le (by rw [HQ.out]; omega)], 0, rfl⟩
    case round =>
      obtain ⟨k, hk, rfl, hdr, d, rfl⟩ := hrel
      have HD := Lib.hid hdr; clear hdr
      by_cases h0 : 0 < k
      · obtain ⟨j, hj⟩ : ∃ j, k = j + 1 := ⟨k - 1, by omega⟩
        subst hj
        have e1 : ((j + 1 : Nat) : Int) - 1 = j := by omega
        rw [e1]
        clear e1
        have hjl : j < la.length := by omega
        obtain ⟨x, hx⟩ := getElem?_ex hjl
        obtain ⟨y, hy⟩ := getElem?_ex (l := lb) (k := j) (by rw [HQ.out]; exact hjl)
        obtain ⟨b1, o1, rfl, hb1, hc1⟩ := HA.out j x hx
        obtain ⟨b2, o2, rfl, hb2, hc2⟩ := HB.out j y hy
        have HX := Lib.hid hx; clear hx
        have HY := Lib.hid hy; clear hy
        go_wp2
        go_quiet (fail)
        by_cases hxy : x < y
        · go_wp2
          go_ret
          refine ⟨ret_int ?_, _, World.drewN_drewN _ _ _⟩
          have := bv_lt_of DA.out DB.out HX.out HY.out HD.out hxy
          rw [VA.out, VB.out] at this
          simp [ordI, this]
        · go_wp2
          go_quiet (fail)
          by_cases hyx : y < x
          · go_wp2
            go_ret
            refine ⟨ret_int ?_, _, World.drewN_drewN _ _ _⟩
            have := bv_lt_of DB.out DA.out HY.out HX.out HD.out.symm hyx
            rw [VA.out, VB.out] at this
            simp [ordI, this, Nat.lt_asymm this]
          · go_wp2
            go_roundw
            case rel =>
              refine ⟨j, by omega, rfl, ?_, _, rfl⟩
              have : x = y := by omega
              rw [drop_getD hjl, drop_getD (l := lb) (k := j) (by rw [HQ.out]; exact hjl), getD_of HX.out, getD_of HY.out, HD.out, this]
            case measure => simp [intOf] <;> omega
      · obtain rfl : k = 0 := by omega
        go_wp2
        go_ret
        refine ⟨ret_int ?_, _, rfl⟩
        have hp := HD.out
        simp only [List.drop_zero] at hp
        have : m = n := by rw [← VA.out, ← VB.out, hp]
        simp [ordI, this]
  · have hb : ((la.length : Int) != q) = true := by simp; omega
    by_cases hlt : la.length < q
    all_goals
      go_enter Try.func129, Try.ntmps129
      go_wp2
      go_ret
      refine ⟨ret_int ?_, 0, rfl⟩
    · have := H1.out (by rw [HQ.out]; exact hlt)
      simp [ordI, this]
    · have := H2.out (by rw [HQ.out]; omega)
      simp [ordI, this, Nat.lt_asymm this]
end Go.Proofs.Ytdbonlpkmncggaa

namespace Go.Proofs.Ytdbonlpkmncggaa
open Go.RowKit

def WholeR (w : World) (v : Value) (z : Int) : Prop :=
  ∃ neg vb, v = .agg #[.bool neg, vb] ∧ Ints .i64 w vb (digs z.natAbs) ∧ (neg = true → z ≤ 0) ∧ (neg = false → 0 ≤ z)

theorem WholeR.below {w w' : World} {v : Value} {z : Int} (h : WholeR w v z) (hb : Below w.heap.size w w') : WholeR w' v z := by
  obtain ⟨neg, vb, rfl, h1, h2, h3⟩ := h
  exact ⟨neg, vb, rfl, h1.below hb, h2, h3⟩

def Sm (n : Nat) : Prop := (digs n).length ≤ 400000
theorem Sm.of {n : Nat} {k : Nat} (h : n < 65536 ^ k) (hk : k ≤ 400000) : Sm n := Nat.le_trans (digs_len n k h) hk

def WFresh (B : Nat) (v : Value) : Prop := ∃ neg vb, v = .agg #[.bool neg, vb] ∧ Fresh B vb
def WholeP (w : World) (e : Ending) (w' : World) (z : Int) : Prop := ∃ v, e = .returned v ∧ WholeR w' v z ∧ WFresh w.heap.size v ∧ Below w.heap.size w w'

attribute [local go_sem ↓] Go.wp_at_zero Go.wp_at_succ

set_option maxRecDepth 100000 in
set_option maxHeartbeats 400000 in
theorem int_any (a : Int) (w : World) (h1 : -9223372036854775808 ≤ a) (h2 : a ≤ 9223372036854775807) :
    Calls Try.prog 118 #[.int .i64 a] w fun e w' => WholeP w e w' a := by
  have hb0 : Below w.heap.size w (w.alloc (.cells #[.bool false, .slice none 0 0] 142)) := (Below.refl _ _).alloc (Nat.le_refl _) _
  by_cases hn : a < 0
  · have hof := of_any a.natAbs (w.alloc (.cells #[.bool false, .slice none 0 0] 142)) (by omega)
    rw [show ((a.natAbs : Nat) : Int) = -(a + 1) + 1 by omega] at hof
    have HOF := Lib.hid hof; clear hof
    go_enter Try.func118, Try.ntmps118
    go_wp2_with (go_at_call 128; refine (HOF.out).mono ?_; rintro e w1 ⟨v, rfl, hv, hfv, hbw⟩; obtain ⟨av, cv, hve⟩ := hv.shape; subst hve; have c0_0 := hbw.cell (p := ⟨w.heap.size, 0, none⟩) (by first | omega | (simp <;> omega)); have f0_0 := hbw.frozen (p := ⟨w.heap.size, 0, none⟩) (by first | omega | (simp <;> omega)); have c0_1 := hbw.cell (p := ⟨w.heap.size, 1, none⟩) (by first | omega | (simp <;> omega)); have f0_1 := hbw.frozen (p := ⟨w.heap.size, 1, none⟩) (by first | omega | (simp <;> omega)); have hz : w.heap.size < w1.heap.size := by have := hbw.size; simp at this; omega)
    refine bodyPost_ret (v := .agg #[.bool true, .slice av (digs a.natAbs).length cv]) (by simp [results, Try.results118, go_sem, *]) rfl ⟨_, rfl, ⟨_, _, rfl, ?_, by omega, by simp⟩, ⟨_, _, rfl, hfv.mono (by simp)⟩, ?_⟩
    · exact (hv.setCell hfv (by simp) _).setCell hfv (by simp) _
    · exact ((hb0.trans (hbw.mono (by simp))).setCell (Nat.le_refl _) _).setCell (Nat.le_refl _) _
  · have hof := of_any a.natAbs (w.alloc (.cells #[.bool false, .slice none 0 0] 142)) (by omega)
    rw [show ((a.natAbs : Nat) : Int) = a by omega] at hof
    have HOF := Lib.hid hof; clear hof
    go_enter Try.func118, Try.ntmps118
    go_wp2_with (go_at_call 128; refine (HOF.out).mono ?_; rintro e w1 ⟨v, rfl, hv, hfv, hbw⟩; obtain ⟨av, cv, hve⟩ := hv.shape; subst hve; have c0_0 := hbw.cell (p := ⟨w.heap.size, 0, none⟩) (by first | omega | (simp <;> omega)); have f0_0 := hbw.frozen (p := ⟨w.heap.size, 0, none⟩) (by first | omega | (simp <;> omega)); have c0_1 := hbw.cell (p := ⟨w.heap.size, 1, none⟩) (by first | omega | (simp <;> omega)); have f0_1 := hbw.frozen (p := ⟨w.heap.size, 1, none⟩) (by first | omega | (simp <;> omega)); have hz : w.heap.size < w1.heap.size := by have := hbw.size; simp at this; omega)
    refine bodyPost_ret (v := .agg #[.bool false, .slice av (digs a.natAbs).length cv]) (by simp [results, Try.results118, go_sem, *]) rfl ⟨_, rfl, ⟨_, _, rfl, ?_, by simp, by omega⟩, ⟨_, _, rfl, hfv.mono (by simp)⟩, ?_⟩
    · exact (hv.setCell hfv (by simp) _).setCell hfv (by simp) _
    · exact ((hb0.trans (hbw.mono (by simp))).setCell (Nat.le_refl _) _).setCell (Nat.le_refl _) _

set_option maxRecDepth 100000 in
set_option maxHeartbeats 1000000 in
theorem both_any (va vb : Value) (a b : Int) (w : World) (ha : WholeR w va a) (hb : WholeR w vb b) (sa : Sm a.natAbs) (sb : Sm b.natAbs) :
    Calls Try.prog 117 #[va, vb] w fun e w' => WholeP w e w' (a + b) := by
  obtain ⟨na, xa, rfl, ha1, ha2, ha3⟩ := ha
  obtain ⟨nb, xb, rfl, hb1, hb2, hb3⟩ := hb
  have HA2 := Lib.hid ha2; clear ha2
  have HB2 := Lib.hid hb2; clear hb2
  have HA3 := Lib.hid ha3; clear ha3
  have HB3 := Lib.hid hb3; clear hb3
  have hb0 : Below w.heap.size w (((w.alloc (.cells #[.bool na, xa] 142)).alloc (.cells #[.bool nb, xb] 142)).alloc (.cells #[.bool false, .slice none 0 0] 142)) :=
      (((Below.refl _ _).alloc (Nat.le_refl _) _).alloc (by simp) _).alloc (by simp; omega) _
  have HA1 := Lib.hid (ha1.below hb0)
  have HB1 := Lib.hid (hb1.below hb0)
  clear ha1 hb1
  have HS : Hid ((digs a.natAbs).length + (digs b.natAbs).length ≤ 1000000 ∧ (digs a.natAbs).length ≤ 1000000 ∧ (digs b.natAbs).length ≤ 1000000) := by unfold Sm at sa sb; exact ⟨by omega, by omega, by omega⟩
  clear sa sb
  have HBZ := Lib.hid hb0; clear hb0
  by_cases hs : na = nb
  · subst hs
    have hq : (na == na) = true := by simp
    go_enter Try.func117, Try.ntmps117
    go_wp2
    go_region_held3 (fun w' => w'.cell? ⟨w.heap.size, 0, none⟩ = some (.bool na) ∧ w'.cell? ⟨w.heap.size, 1, none⟩ = some (xa) ∧ w'.cell? ⟨w.heap.size + 1, 1, none⟩ = some (xb)) (first | (go_simp; done) | (go_keep; done) | (refine ⟨?_, ?_, ?_⟩ <;> first | (go_simp; done) | (go_keep; done))) (first | (go_at_call 130; refine (plus_any _ _ a.natAbs b.natAbs _ (HA1.out.drewN 1) (HB1.out.drewN 1) HS.out.1).mono ?_; rintro e w1 ⟨v, rfl, hv, hfv, hbw⟩; obtain ⟨av, cv, hve⟩ := hv.shape; subst hve; have c0_0 := hbw.cell (p := ⟨w.heap.size, 0, none⟩) (by first | omega | (simp <;> omega)); have f0_0 := hbw.frozen (p := ⟨w.heap.size, 0, none⟩) (by first | omega | (simp <;> omega)); have c0_1 := hbw.cell (p := ⟨w.heap.size, 1, none⟩) (by first | omega | (simp <;> omega)); have f0_1 := hbw.frozen (p := ⟨w.heap.size, 1, none⟩) (by first | omega | (simp <;> omega)); have c1_0 := hbw.cell (p := ⟨w.heap.size + 1, 0, none⟩) (by first | omega | (simp <;> omega)); have f1_0 := hbw.frozen (p := ⟨w.heap.size + 1, 0, none⟩) (by first | omega | (simp <;> omega)); have c1_1 := hbw.cell (p := ⟨w.heap.size + 1, 1, none⟩) (by first | omega | (simp <;> omega)); have f1_1 := hbw.frozen (p := ⟨w.heap.size + 1, 1, none⟩) (by first | omega | (simp <;> omega)); have c2_0 := hbw.cell (p := ⟨w.heap.size + 1 + 1, 0, none⟩) (by first | omega | (simp <;> omega)); have f2_0 := hbw.frozen (p := ⟨w.heap.size + 1 + 1, 0, none⟩) (by first | omega | (simp <;> omega)); have c2_1 := hbw.cell (p := ⟨w.heap.size + 1 + 1, 1, none⟩) (by first | omega | (simp <;> omega)); have f2_1 := hbw.frozen (p := ⟨w.heap.size + 1 + 1, 1, none⟩) (by first | omega | (simp <;> omega)); have hz : w.heap.size + 1 + 1 < w1.heap.size := by have := hbw.size; simp at this; omega))
    go_wp2
    have e0 : (a + b).natAbs = a.natAbs + b.natAbs := by
      have := HA2.out; have := HB2.out; have := HA3.out; have := HB3.out
      cases na <;> simp_all <;> omega
    refine bodyPost_ret (v := .agg #[.bool na, .slice av (digs (a.natAbs + b.natAbs)).length cv]) (by simp [results, Try.results117, go_sem, *]) rfl ⟨_, rfl, ⟨_, _, rfl, ?_, fun h => ?_, fun h => ?_⟩, ⟨_, _, rfl, hfv.mono (by simp; omega)⟩, ?_⟩
    · rw [e0]; exact (hv.setCell hfv (by simp) _).setCell hfv (by simp) _
    · have := HA2.out h; have := HB2.out h; omega
    · have := HA3.out h; have := HB3.out h; omega
    · exact ((HBZ.out.drew.trans (hbw.mono (by simp; omega))).setCell (by simp; omega) _).setCell (by simp; omega) _
  · have hq : (na == nb) = false := by simp [hs]
    have HNN := Lib.hid hs; clear hs
    have hor := order_any xa xb a.natAbs b.natAbs _ HA1.out HB1.out
    have HOR := Lib.hid hor; clear hor
    obtain ⟨r, hr⟩ : ∃ r, ordI a.natAbs b.natAbs = r := ⟨_, rfl⟩
    rw [hr] at HOR
    by_cases hge : 0 ≤ r
    · have hle : b.natAbs ≤ a.natAbs := by rw [← hr] at hge; unfold ordI at hge; split at hge <;> omega
      have HR := Lib.hid hr; clear hr
      go_enter Try.func117, Try.ntmps117
      go_wp2_with (go_at_call 129; refine HOR.out.mono ?_; rintro e w0 ⟨rfl, d, rfl⟩)
      go_region_held3 (fun w' => w'.cell? ⟨w.heap.size, 0, none⟩ = some (.bool na) ∧ w'.cell? ⟨w.heap.size, 1, none⟩ = some (xa) ∧ w'.cell? ⟨w.heap.size + 1, 1, none⟩ = some (xb)) (first | (go_simp; done) | (go_keep; done) | (refine ⟨?_, ?_, ?_⟩ <;> first | (go_simp; done) | (go_keep; done))) (first | (go_at_call 131; refine (minus_any _ _ a.natAbs b.natAbs _ (HA1.out.drewN _) (HB1.out.drewN _) HS.out.2.1 hle).mono ?_; rintro e w1 ⟨v, rfl, hv, hfv, hbw⟩; obtain ⟨av, cv, hve⟩ := hv.shape; subst hve; have c0_0 := hbw.cell (p := ⟨w.heap.size, 0, none⟩) (by first | omega | (simp <;> omega)); have f0_0 := hbw.frozen (p := ⟨w.heap.size, 0, none⟩) (by first | omega | (simp <;> omega)); have c0_1 := hbw.cell (p := ⟨w.heap.size, 1, none⟩) (by first | omega | (simp <;> omega)); have f0_1 := hbw.frozen (p := ⟨w.heap.size, 1, none⟩) (by first | omega | (simp <;> omega)); have c1_0 := hbw.cell (p := ⟨w.heap.size + 1, 0, none⟩) (by first | omega | (simp <;> omega)); have f1_0 := hbw.frozen (p := ⟨w.heap.size + 1, 0, none⟩) (by first | omega | (simp <;> omega)); have c1_1 := hbw.cell (p := ⟨w.heap.size + 1, 1, none⟩) (by first | omega | (simp <;> omega)); have f1_1 := hbw.frozen (p := ⟨w.heap.size + 1, 1, none⟩) (by first | omega | (simp <;> omega)); have c2_0 := hbw.cell (p := ⟨w.heap.size + 1 + 1, 0, none⟩) (by first | omega | (simp <;> omega)); have f2_0 := hbw.frozen (p := ⟨w.heap.size + 1 + 1, 0, none⟩) (by first | omega | (simp <;> omega)); have c2_1 := hbw.cell (p := ⟨w.heap.size + 1 + 1, 1, none⟩) (by first | omega | (simp <;> omega)); have f2_1 := hbw.frozen (p := ⟨w.heap.size + 1 + 1, 1, none⟩) (by first | omega | (simp <;> omega)); have hz : w.heap.size + 1 + 1 < w1.heap.size := by have := hbw.size; simp at this; omega))
      go_wp2
      have e0 : (a + b).natAbs = a.natAbs - b.natAbs := by
        have := HA2.out; have := HB2.out; have := HA3.out; have := HB3.out; have := HNN.out
        cases na <;> cases nb <;> simp_all <;> omega
      refine bodyPost_ret (v := .agg #[.bool na, .slice av (digs (a.natAbs - b.natAbs)).length cv]) (by simp [results, Try.results117, go_sem, *]) rfl ⟨_, rfl, ⟨_, _, rfl, ?_, fun h => ?_, fun h => ?_⟩, ⟨_, _, rfl, hfv.mono (by simp; omega)⟩, ?_⟩
      · rw [e0]; exact (hv.setCell hfv (by simp) _).setCell hfv (by simp) _
      · have := HA2.out h; omega
      · have := HA3.out h; omega
      · exact (((below_drewN HBZ.out _).trans (hbw.mono (by simp; omega))).setCell (by simp; omega) _).setCell (by simp; omega) _
    · have hle : a.natAbs < b.natAbs := by rw [← hr] at hge; unfold ordI at hge; split at hge <;> omega
      have HR := Lib.hid hr; clear hr
      go_enter Try.func117, Try.ntmps117
      go_wp2_with (go_at_call 129; refine HOR.out.mono ?_; rintro e w0 ⟨rfl, d, rfl⟩)
      go_region_held3 (fun w' => w'.cell? ⟨w.heap.size + 1, 0, none⟩ = some (.bool nb) ∧ w'.cell? ⟨w.heap.size, 1, none⟩ = some (xa) ∧ w'.cell? ⟨w.heap.size + 1, 1, none⟩ = some (xb)) (first | (go_simp; done) | (go_keep; done) | (refine ⟨?_, ?_, ?_⟩ <;> first | (go_simp; done) | (go_keep; done))) (first | (go_at_call 131; refine (minus_any _ _ b.natAbs a.natAbs _ (HB1.out.drewN _) (HA1.out.drewN _) HS.out.2.2 (Nat.le_of_lt hle)).mono ?_; rintro e w1 ⟨v, rfl, hv, hfv, hbw⟩; obtain ⟨av, cv, hve⟩ := hv.shape; subst hve; have c0_0 := hbw.cell (p := ⟨w.heap.size, 0, none⟩) (by first | omega | (simp <;> omega)); have f0_0 := hbw.frozen (p := ⟨w.heap.size, 0, none⟩) (by first | omega | (simp <;> omega)); have c0_1 := hbw.cell (p := ⟨w.heap.size, 1, none⟩) (by first | omega | (simp <;> omega)); have f0_1 := hbw.frozen (p := ⟨w.heap.size, 1, none⟩) (by first | omega | (simp <;> omega)); have c1_0 := hbw.cell (p := ⟨w.heap.size + 1, 0, none⟩) (by first | omega | (simp <;> omega)); have f1_0 := hbw.frozen (p := ⟨w.heap.size + 1, 0, none⟩) (by first | omega | (simp <;> omega)); have c1_1 := hbw.cell (p := ⟨w.heap.size + 1, 1, none⟩) (by first | omega | (simp <;> omega)); have f1_1 := hbw.frozen (p := ⟨w.heap.size + 1, 1, none⟩) (by first | omega | (simp <;> omega)); have c2_0 := hbw.cell (p := ⟨w.heap.size + 1 + 1, 0, none⟩) (by first | omega | (simp <;> omega)); have f2_0 := hbw.frozen (p := ⟨w.heap.size + 1 + 1, 0, none⟩) (by first | omega | (simp <;> omega)); have c2_1 := hbw.cell (p := ⟨w.heap.size + 1 + 1, 1, none⟩) (by first | omega | (simp <;> omega)); have f2_1 := hbw.frozen (p := ⟨w.heap.size + 1 + 1, 1, none⟩) (by first | omega | (simp <;> omega)); have hz : w.heap.size + 1 + 1 < w1.heap.size := by have := hbw.size; simp at this; omega))
      go_wp2
      have e0 : (a + b).natAbs = b.natAbs - a.natAbs := by
        have := HA2.out; have := HB2.out; have := HA3.out; have := HB3.out; have := HNN.out
        cases na <;> cases nb <;> simp_all <;> omega
      refine bodyPost_ret (v := .agg #[.bool nb, .slice av (digs (b.natAbs - a.natAbs)).length cv]) (by simp [results, Try.results117, go_sem, *]) rfl ⟨_, rfl, ⟨_, _, rfl, ?_, fun h => ?_, fun h => ?_⟩, ⟨_, _, rfl, hfv.mono (by simp; omega)⟩, ?_⟩
      · rw [e0]; exact (hv.setCell hfv (by simp) _).setCell hfv (by simp) _
      · have := HB2.out h; omega
      · have := HB3.out h; omega
      · exact (((below_drewN HBZ.out _).trans (hbw.mono (by simp; omega))).setCell (by simp; omega) _).setCell (by simp; omega) _
end Go.Proofs.Ytdbonlpkmncggaa

namespace Go.Proofs.Ytdbonlpkmncggaa
open Go.RowKit

theorem Sm.len {m : Nat} (h : (digs m).length ≤ 1000) : Sm m := by unfold Sm; omega

theorem Ints.nil (k : IntKind) (w : World) : Ints k w (.slice none 0 0) [] := ⟨none, 0, rfl, by simp, by omega, by simp, fun i x h => by simp at h⟩

end Go.Proofs.Ytdbonlpkmncggaa

namespace Go.Proofs.Ytdbonlpkmncggaa
open Go.RowKit

theorem bv_drop {l : List Int} {j : Nat} {x : Int} (h : l[j]? = some x) : bv (l.drop j) = x.toNat + 65536 * bv (l.drop (j + 1)) := by
  have hk : j < l.length := (List.getElem?_eq_some_iff.1 h).1
  rw [drop_getD hk, getD_of h]; rfl

theorem bv_drop_le (l : List Int) (j : Nat) : bv (l.drop j) ≤ bv l := by
  have h := bv_append (l.take j) (l.drop j)
  rw [List.take_append_drop] at h
  have h1 : 1 ≤ 65536 ^ (l.take j).length := Nat.pow_pos (by omega)
  have h2 : 1 * bv (l.drop j) ≤ 65536 ^ (l.take j).length * bv (l.drop j) := Nat.mul_le_mul_right _ h1
  omega

def FitB (w : World) (e : Ending) (w' : World) (z : Int) : Prop := e = .returned (.tuple #[.int .i64 (fitV z), .int .i64 (fitE z)]) ∧ Below w.heap.size w w'

set_option maxRecDepth 100000 in
set_option maxHeartbeats 1000000 in
theorem fits_any (v : Value) (z : Int) (w : World) (h : WholeR w v z) :
    Calls Try.prog 116 #[v] w fun e w' => FitB w e w' z := by
  obtain ⟨neg, vb, rfl, h1, h2, h3⟩ := h
  obtain ⟨l, hl⟩ : ∃ l, digs z.natAbs = l := ⟨_, rfl⟩
  have hd : Dig l := by rw [← hl]; exact digs_dig _
  have hv : bv l = z.natAbs := by rw [← hl]; exact bv_digs _
  have HD := Lib.hid hd; clear hd
  have HV := Lib.hid hv; clear hv
  rw [hl] at h1
  have h1' := h1
  obtain ⟨a, c, rfl, hc1, hc2, hc3, hA⟩ := h1
  have hb0 : Below w.heap.size w (w.alloc (.cells #[.bool neg, .slice a l.length c] 142)) := (Below.refl _ _).alloc (Nat.le_refl _) _
  have hof := of_any 9223372036854775808 (w.alloc (.cells #[.bool neg, .slice a l.length c] 142)) (by omega)
  rw [show ((9223372036854775808 : Nat) : Int) = 9223372036854775808 from rfl] at hof
  have HOF := Lib.hid hof; clear hof
  have HB1 := Lib.hid (h1'.below hb0); clear h1'
  have HA := Lib.hid hA; clear hA
  have HBZ := Lib.hid hb0; clear hb0
  have H2 := Lib.hid h2; clear h2
  have H3 := Lib.hid h3; clear h3
  have HL := Lib.hid hl
  by_cases hbig : 9223372036854775808 < z.natAbs ∨ (z.natAbs = 9223372036854775808 ∧ neg = false)
  · have hno : ¬ Ok64 z := by
      have := H2.out; have := H3.out; unfold Ok64
      rcases hbig with h | ⟨h, rfl⟩
      · omega
      · have := H3.out rfl; omega
    have HNO := Lib.hid hno; clear hno
    rcases hbig with h | ⟨h, rfl⟩
    · have ho : ordI z.natAbs 9223372036854775808 = 1 := by unfold ordI; rw [if_neg (by omega), if_pos h]
      have HO := Lib.hid ho; clear ho h hl
      go_enter Try.func116, Try.ntmps116
      go_wp2_with (first | (go_at_call 128; refine HOF.out.mono ?_; rintro e w1 ⟨vt, rfl, hvt, hft, hbw⟩; have c0_0 := hbw.cell (p := ⟨w.heap.size, 0, none⟩) (by first | omega | (simp <;> omega)); have f0_0 := hbw.frozen (p := ⟨w.heap.size, 0, none⟩) (by first | omega | (simp <;> omega)); have c0_1 := hbw.cell (p := ⟨w.heap.size, 1, none⟩) (by first | omega | (simp <;> omega)); have f0_1 := hbw.frozen (p := ⟨w.heap.size, 1, none⟩) (by first | omega | (simp <;> omega))) | (go_at_call 129; refine (order_any _ _ z.natAbs 9223372036854775808 _ (HL.out ▸ HB1.out.below hbw) hvt).mono ?_; rw [HO.out]; rintro e w2 ⟨rfl, d, rfl⟩))
      go_ret2
      exact ⟨ret2 (fitV_no HNO.out).symm (fitE_no HNO.out).symm, below_drewN (HBZ.out.trans (hbw.mono (by simp))) _⟩
    · have ho : ordI z.natAbs 9223372036854775808 = 0 := by unfold ordI; rw [if_neg (by omega), if_neg (by omega)]
      have HO := Lib.hid ho; clear ho h hl
      go_enter Try.func116, Try.ntmps116
      go_wp2_with (first | (go_at_call 128; refine HOF.out.mono ?_; rintro e w1 ⟨vt, rfl, hvt, hft, hbw⟩; have c0_0 := hbw.cell (p := ⟨w.heap.size, 0, none⟩) (by first | omega | (simp <;> omega)); have f0_0 := hbw.frozen (p := ⟨w.heap.size, 0, none⟩) (by first | omega | (simp <;> omega)); have c0_1 := hbw.cell (p := ⟨w.heap.size, 1, none⟩) (by first | omega | (simp <;> omega)); have f0_1 := hbw.frozen (p := ⟨w.heap.size, 1, none⟩) (by first | omega | (simp <;> omega))) | (go_at_call 129; refine (order_any _ _ z.natAbs 9223372036854775808 _ (HL.out ▸ HB1.out.below hbw) hvt).mono ?_; rw [HO.out]; rintro e w2 ⟨rfl, d, rfl⟩))
      go_ret2
      exact ⟨ret2 (fitV_no HNO.out).symm (fitE_no HNO.out).symm, below_drewN (HBZ.out.trans (hbw.mono (by simp))) _⟩
  · have hok : Ok64 z := by
      have := H2.out; have := H3.out; unfold Ok64
      cases neg with
      | false => have := H3.out rfl; simp at hbig; omega
      | true => have := H2.out rfl; simp at hbig; omega
    have hbn : bv l ≤ 9223372036854775808 := by rw [HV.out]; omega
    have HOK := Lib.hid hok; clear hok
    have ho : ∃ r, ordI z.natAbs 9223372036854775808 = r ∧ (r = -1 ∨ (r = 0 ∧ neg = true)) := by
      refine ⟨_, rfl, ?_⟩
      unfold ordI
      by_cases h : z.natAbs < 9223372036854775808
      · left; rw [if_pos h]
      · right; refine ⟨by rw [if_neg h, if_neg (by omega)], ?_⟩
        cases neg with
        | true => rfl
        | false => simp at hbig; omega
    clear hbig hl
    have HBN := Lib.hid hbn; clear hbn
    obtain ⟨r, ho, hr⟩ := ho
    have HO := Lib.hid ho; clear ho
    have hcases : (neg = false ∧ r = -1) ∨ (neg = true ∧ r = -1) ∨ (neg = true ∧ r = 0) := by
      cases neg <;> simp_all
    clear hr
    have hbn1 : r = -1 → bv l ≤ 9223372036854775807 := fun h => by
      have := HO.out; rw [h] at this; unfold ordI at this; rw [HV.out]
      by_cases h1 : z.natAbs < 9223372036854775808
      · omega
      · rw [if_neg h1] at this; split at this <;> omega
    rcases hcases with ⟨rfl, rfl⟩ | ⟨rfl, rfl⟩ | ⟨rfl, rfl⟩
    all_goals have HBN1 := Lib.hid hbn1
    all_goals clear hbn1
    · go_enter Try.func116, Try.ntmps116
      go_wp2_with (first | (go_at_call 128; refine HOF.out.mono ?_; rintro e w1 ⟨vt, rfl, hvt, hft, hbw⟩; have c0_0 := hbw.cell (p := ⟨w.heap.size, 0, none⟩) (by first | omega | (simp <;> omega)); have f0_0 := hbw.frozen (p := ⟨w.heap.size, 0, none⟩) (by first | omega | (simp <;> omega)); have c0_1 := hbw.cell (p := ⟨w.heap.size, 1, none⟩) (by first | omega | (simp <;> omega)); have f0_1 := hbw.frozen (p := ⟨w.heap.size, 1, none⟩) (by first | omega | (simp <;> omega))) | (go_at_call 129; refine (order_any _ _ z.natAbs 9223372036854775808 _ (HL.out ▸ HB1.out.below hbw) hvt).mono ?_; rw [HO.out]; rintro e w2 ⟨rfl, d, rfl⟩))
      go_loopw [6, 7] (fun m i wr => ∃ (k p : Nat), k ≤ l.length ∧ i = .int .i64 ((k : Int) - 1) ∧ m = .int .i64 (p : Int) ∧ bv (l.drop k) = p ∧ p ≤ 9223372036854775807 ∧ wr = w1.drewN d) (fun _ i _ => (intOf i + 1).toNat)
      case atStart => exact ⟨l.length, 0, Nat.le_refl _, rfl, rfl, by rw [List.drop_of_length_le (Nat.le_refl _)]; rfl, by omega, rfl⟩
      case round =>
        obtain ⟨k, p, hk, rfl, rfl, hp, hpb, rfl⟩ := hrel
        have HP := Lib.hid hp; clear hp
        by_cases h0 : 0 < k
        · obtain ⟨j, hj⟩ : ∃ j, k = j + 1 := ⟨k - 1, by omega⟩
          subst hj
          have e1 : ((j + 1 : Nat) : Int) - 1 = j := by omega
          rw [e1]
          clear e1
          have hjl : j < l.length := by omega
          obtain ⟨x, hx⟩ := getElem?_ex hjl
          have hxb := HD.out x (List.mem_of_getElem? hx)
          have hst := bv_drop hx
          rw [HP.out] at hst
          have hle := bv_drop_le l j
          have hle2 := Nat.le_trans hle (HBN1.out (by first | rfl | trivial))
          obtain ⟨b1, o1, rfl, hb1, hc1'⟩ := HA.out j x hx
          have cx := (((Below.refl w.heap.size w).alloc (Nat.le_refl _) _).trans (hbw.mono (by simp)) |>.cell (p := ⟨b1, o1 + j, none⟩) hb1).trans hc1'
          clear hle hc1'
          obtain ⟨p', hp'⟩ : ∃ p', bv (l.drop j) = p' := ⟨_, rfl⟩
          rw [hp'] at hst hle2
          have HX := Lib.hid hx; clear hx
          have HP' := Lib.hid hp'; clear hp'
          have b1 : 65536 * (p : Int) + x ≤ 9223372036854775807 := by omega
          have HST := Lib.hid hst; clear hst
          go_wp2
          go_roundw
          case rel => exact ⟨j, p', by omega, rfl, by have := HST.out; go_num, HP'.out, hle2, by first | rfl | trivial⟩
          case measure => simp [intOf] <;> omega
        · obtain rfl : k = 0 := by omega
          have hz : z = p := by
            have := HP.out; have := H3.out (by simp); have h5 := HV.out; have h6 := HP.out; simp at h6; omega
          have HZ := Lib.hid hz; clear hz
          go_wp2
          go_ret2
          refine ⟨ret2 (by rw [fitV_yes HOK.out]; exact HZ.out.symm) (fitE_yes HOK.out).symm, below_drewN (HBZ.out.trans (hbw.mono (by simp))) _⟩
    · go_enter Try.func116, Try.ntmps116
      go_wp2_with (first | (go_at_call 128; refine HOF.out.mono ?_; rintro e w1 ⟨vt, rfl, hvt, hft, hbw⟩; have c0_0 := hbw.cell (p := ⟨w.heap.size, 0, none⟩) (by first | omega | (simp <;> omega)); have f0_0 := hbw.frozen (p := ⟨w.heap.size, 0, none⟩) (by first | omega | (simp <;> omega)); have c0_1 := hbw.cell (p := ⟨w.heap.size, 1, none⟩) (by first | omega | (simp <;> omega)); have f0_1 := hbw.frozen (p := ⟨w.heap.size, 1, none⟩) (by first | omega | (simp <;> omega))) | (go_at_call 129; refine (order_any _ _ z.natAbs 9223372036854775808 _ (HL.out ▸ HB1.out.below hbw) hvt).mono ?_; rw [HO.out]; rintro e w2 ⟨rfl, d, rfl⟩))
      go_loopw [6, 7] (fun m i wr => ∃ (k p : Nat), k ≤ l.length ∧ i = .int .i64 ((k : Int) - 1) ∧ m = .int .i64 (-(p : Int)) ∧ bv (l.drop k) = p ∧ p ≤ 9223372036854775808 ∧ wr = w1.drewN d) (fun _ i _ => (intOf i + 1).toNat)
      case atStart => exact ⟨l.length, 0, Nat.le_refl _, rfl, rfl, by rw [List.drop_of_length_le (Nat.le_refl _)]; rfl, by omega, rfl⟩
      case round =>
        obtain ⟨k, p, hk, rfl, rfl, hp, hpb, rfl⟩ := hrel
        have HP := Lib.hid hp; clear hp
        by_cases h0 : 0 < k
        · obtain ⟨j, hj⟩ : ∃ j, k = j + 1 := ⟨k - 1, by omega⟩
          subst hj
          have e1 : ((j + 1 : Nat) : Int) - 1 = j := by omega
          rw [e1]
          clear e1
          have hjl : j < l.length := by omega
          obtain ⟨x, hx⟩ := getElem?_ex hjl
          have hxb := HD.out x (List.mem_of_getElem? hx)
          have hst := bv_drop hx
          rw [HP.out] at hst
          have hle := bv_drop_le l j
          have hle2 := Nat.le_trans hle HBN.out
          obtain ⟨b1, o1, rfl, hb1, hc1'⟩ := HA.out j x hx
          have cx := (((Below.refl w.heap.size w).alloc (Nat.le_refl _) _).trans (hbw.mono (by simp)) |>.cell (p := ⟨b1, o1 + j, none⟩) hb1).trans hc1'
          clear hle hc1'
          obtain ⟨p', hp'⟩ : ∃ p', bv (l.drop j) = p' := ⟨_, rfl⟩
          rw [hp'] at hst hle2
          have HX := Lib.hid hx; clear hx
          have HP' := Lib.hid hp'; clear hp'
          have b1 : 65536 * (p : Int) + x ≤ 9223372036854775808 := by omega
          have HST := Lib.hid hst; clear hst
          go_wp2
          go_roundw
          case rel => exact ⟨j, p', by omega, rfl, by have := HST.out; go_num, HP'.out, hle2, by first | rfl | trivial⟩
          case measure => simp [intOf] <;> omega
        · obtain rfl : k = 0 := by omega
          have hz : z = -(p : Int) := by
            have := HP.out; have := H2.out (by simp); have h5 := HV.out; have h6 := HP.out; simp at h6; omega
          have HZ := Lib.hid hz; clear hz
          go_wp2
          go_ret2
          refine ⟨ret2 (by rw [fitV_yes HOK.out]; exact HZ.out.symm) (fitE_yes HOK.out).symm, below_drewN (HBZ.out.trans (hbw.mono (by simp))) _⟩
    · go_enter Try.func116, Try.ntmps116
      go_wp2_with (first | (go_at_call 128; refine HOF.out.mono ?_; rintro e w1 ⟨vt, rfl, hvt, hft, hbw⟩; have c0_0 := hbw.cell (p := ⟨w.heap.size, 0, none⟩) (by first | omega | (simp <;> omega)); have f0_0 := hbw.frozen (p := ⟨w.heap.size, 0, none⟩) (by first | omega | (simp <;> omega)); have c0_1 := hbw.cell (p := ⟨w.heap.size, 1, none⟩) (by first | omega | (simp <;> omega)); have f0_1 := hbw.frozen (p := ⟨w.heap.size, 1, none⟩) (by first | omega | (simp <;> omega))) | (go_at_call 129; refine (order_any _ _ z.natAbs 9223372036854775808 _ (HL.out ▸ HB1.out.below hbw) hvt).mono ?_; rw [HO.out]; rintro e w2 ⟨rfl, d, rfl⟩))
      go_loopw [6, 7] (fun m i wr => ∃ (k p : Nat), k ≤ l.length ∧ i = .int .i64 ((k : Int) - 1) ∧ m = .int .i64 (-(p : Int)) ∧ bv (l.drop k) = p ∧ p ≤ 9223372036854775808 ∧ wr = w1.drewN d) (fun _ i _ => (intOf i + 1).toNat)
      case atStart => exact ⟨l.length, 0, Nat.le_refl _, rfl, rfl, by rw [List.drop_of_length_le (Nat.le_refl _)]; rfl, by omega, rfl⟩
      case round =>
        obtain ⟨k, p, hk, rfl, rfl, hp, hpb, rfl⟩ := hrel
        have HP := Lib.hid hp; clear hp
        by_cases h0 : 0 < k
        · obtain ⟨j, hj⟩ : ∃ j, k = j + 1 := ⟨k - 1, by omega⟩
          subst hj
          have e1 : ((j + 1 : Nat) : Int) - 1 = j := by omega
          rw [e1]
          clear e1
          have hjl : j < l.length := by omega
          obtain ⟨x, hx⟩ := getElem?_ex hjl
          have hxb := HD.out x (List.mem_of_getElem? hx)
          have hst := bv_drop hx
          rw [HP.out] at hst
          have hle := bv_drop_le l j
          have hle2 := Nat.le_trans hle HBN.out
          obtain ⟨b1, o1, rfl, hb1, hc1'⟩ := HA.out j x hx
          have cx := (((Below.refl w.heap.size w).alloc (Nat.le_refl _) _).trans (hbw.mono (by simp)) |>.cell (p := ⟨b1, o1 + j, none⟩) hb1).trans hc1'
          clear hle hc1'
          obtain ⟨p', hp'⟩ : ∃ p', bv (l.drop j) = p' := ⟨_, rfl⟩
          rw [hp'] at hst hle2
          have HX := Lib.hid hx; clear hx
          have HP' := Lib.hid hp'; clear hp'
          have b1 : 65536 * (p : Int) + x ≤ 9223372036854775808 := by omega
          have HST := Lib.hid hst; clear hst
          go_wp2
          go_roundw
          case rel => exact ⟨j, p', by omega, rfl, by have := HST.out; go_num, HP'.out, hle2, by first | rfl | trivial⟩
          case measure => simp [intOf] <;> omega
        · obtain rfl : k = 0 := by omega
          have hz : z = -(p : Int) := by
            have := HP.out; have := H2.out (by simp); have h5 := HV.out; have h6 := HP.out; simp at h6; omega
          have HZ := Lib.hid hz; clear hz
          go_wp2
          go_ret2
          refine ⟨ret2 (by rw [fitV_yes HOK.out]; exact HZ.out.symm) (fitE_yes HOK.out).symm, below_drewN (HBZ.out.trans (hbw.mono (by simp))) _⟩
end Go.Proofs.Ytdbonlpkmncggaa

namespace Go.Proofs.Ytdbonlpkmncggaa
open Go.RowKit

attribute [local go_sem ↓] Go.wp_at_zero Go.wp_at_succ

theorem Sm.ok {z : Int} (h : Ok64 z) : Sm z.natAbs := Sm.of (k := 4) (by unfold Ok64 at h; omega) (by omega)

set_option maxRecDepth 100000 in
set_option maxHeartbeats 400000 in
theorem turn_any (v : Value) (z : Int) (w : World) (h : WholeR w v z) :
    Calls Try.prog 119 #[v] w fun e w' => ∃ v', e = .returned v' ∧ WholeR w' v' (-z) ∧ Below w.heap.size w w' := by
  obtain ⟨neg, vb, rfl, h1, h2, h3⟩ := h
  have H1 := Lib.hid h1
  obtain ⟨a, c, rfl, _, _, _, _⟩ := h1
  have H2 := Lib.hid h2; clear h2
  have H3 := Lib.hid h3; clear h3
  go_enter Try.func119, Try.ntmps119
  go_wp2
  refine bodyPost_ret (v := .agg #[.bool (!neg), .slice a (digs z.natAbs).length c]) (by simp [results, Try.results119, go_sem, *]) rfl ⟨_, rfl, ⟨_, _, rfl, ?_, fun h => ?_, fun h => ?_⟩, ?_⟩
  · rw [Int.natAbs_neg]
    exact H1.out.below (by (repeat (first | with_reducible exact Below.refl _ _ | with_reducible refine Bs ?_ | with_reducible refine Ba ?_ | with_reducible refine Bd ?_ | with_reducible refine Bn ?_)))
  · have := H3.out (by simpa using h); omega
  · have := H2.out (by simpa using h); omega
  · (repeat (first | with_reducible exact Below.refl _ _ | with_reducible refine Bs ?_ | with_reducible refine Ba ?_ | with_reducible refine Bd ?_ | with_reducible refine Bn ?_))

end Go.Proofs.Ytdbonlpkmncggaa

namespace Go.Proofs.Ytdbonlpkmncggaa
open Go.RowKit

attribute [local go_sem ↓] Go.wp_at_zero Go.wp_at_succ

set_option maxHeartbeats 400000 in
theorem rsub_any (a b : Int) (w : World) (ha : Ok64 a) (hb : Ok64 b) :
    Calls Try.prog 107 #[.int .i64 a, .int .i64 b] w fun e w' => FitB w e w' (a - b) := by
  have SA := Lib.hid (Sm.ok ha)
  have SB : Hid (Sm (-b).natAbs) := by rw [Int.natAbs_neg]; exact Sm.ok hb
  go_enter Try.func107, Try.ntmps107
  go_wp2_with fail
  refine (int_any a _ ha.1 ha.2).mono ?_
  rintro e w1 ⟨v1, rfl, hv1, _, hb1⟩
  go_wp2_with fail
  refine (int_any b _ hb.1 hb.2).mono ?_
  rintro e w2 ⟨v2, rfl, hv2, _, hb2⟩
  go_wp2_with fail
  refine (turn_any v2 b _ hv2).mono ?_
  rintro e w5 ⟨v5, rfl, hv5, hb5⟩
  go_wp2_with fail
  refine (both_any v1 v5 a (-b) _ ((hv1.below hb2).below hb5) hv5 SA.out SB.out).mono ?_
  rintro e w3 ⟨v3, rfl, hv3, _, hb3⟩
  rw [← Int.sub_eq_add_neg] at hv3
  go_wp2_with fail
  refine (fits_any v3 _ _ hv3).mono ?_
  rintro e w4 ⟨rfl, hb4⟩
  go_wp2
  go_ret2
  exact ⟨rfl, hb1.trans ((hb2.trans ((hb5.trans ((hb3.trans (hb4.mono hb3.size)).mono hb5.size)).mono hb2.size)).mono hb1.size)⟩

end Go.Proofs.Ytdbonlpkmncggaa

namespace Go.Proofs.Ytdbonlpkmncggaa
open Go.RowKit

theorem gcdZ_step (x y : Int) : gcdZ x y = gcdZ y (x.tmod y) := by
  unfold gcdZ
  rw [Int.natAbs_tmod, gcd_step]

set_option maxHeartbeats 800000 in
theorem rgcd_any (a b : Int) (w : World) (ha : Ok64 a) (hb : Ok64 b) :
    Calls Try.prog 86 #[.int .i64 a, .int .i64 b] w fun e w' => e = .returned (.tuple #[.int .i64 (fitV (gcdZ a b)), .int .i64 (fitE (gcdZ a b))]) ∧ Below w.heap.size w w' := by
  go_enter Try.func86, Try.ntmps86
  go_wp2
  go_loopw [6, 7] (fun x y wr => ∃ (p q : Int), x = .int .i64 p ∧ y = .int .i64 q ∧ Ok64 p ∧ Ok64 q ∧ gcdZ p q = gcdZ a b ∧ ∃ n, wr = w.drewN n) (fun _ y _ => (intOf y).natAbs)
  case atStart => exact ⟨_, _, rfl, rfl, ha, hb, rfl, 0, rfl⟩
  case round =>
    obtain ⟨p, q, rfl, rfl, hp, hq, hg, n, rfl⟩ := hrel
    have HG := Lib.hid hg; clear hg
    have HP := Lib.hid hp
    have HQ := Lib.hid hq
    unfold Ok64 at hp hq
    by_cases h0 : q = 0
    · subst h0
      have hz : gcdZ a b = p.natAbs := by rw [← HG.out]; simp [gcdZ]
      have HZ := Lib.hid hz; clear hz
      by_cases hn : p < 0
      · have hs : ∀ W : World, Calls Try.prog 107 #[.int .i64 0, .int .i64 p] W fun e w' => FitB W e w' (gcdZ a b) := fun W => by
          have := rsub_any 0 p W (by unfold Ok64; omega) HP.out
          rwa [show 0 - p = gcdZ a b by rw [HZ.out]; omega] at this
        have HS := Lib.hid hs; clear hs
        go_wp2_with (go_at_call 107; refine (HS.out _).mono ?_; rintro e w1 ⟨rfl, hbw⟩)
        go_ret2
        exact ⟨rfl, (below_drewN (Below.refl _ _) n).trans hbw⟩
      · have hok : Ok64 (gcdZ a b) := by rw [HZ.out]; unfold Ok64; omega
        have HOK := Lib.hid hok; clear hok
        go_wp2
        go_ret2
        exact ⟨ret2 (by rw [fitV_yes HOK.out, HZ.out]; omega) (fitE_yes HOK.out).symm, by (repeat (first | with_reducible exact Below.refl _ _ | with_reducible refine Bs ?_ | with_reducible refine Ba ?_ | with_reducible refine Bd ?_ | with_reducible refine Bn ?_))⟩
    · have hnb : (q != 0) = true := by simp [h0]
      by_cases h1 : q = -1
      · subst h1
        have hz : gcdZ a b = 1 := by rw [← HG.out]; simp [gcdZ]
        have hok : Ok64 (gcdZ a b) := by rw [hz]; unfold Ok64; omega
        have HZ := Lib.hid hz; clear hz
        have HOK := Lib.hid hok; clear hok
        go_wp2
        go_ret2
        exact ⟨ret2 (by rw [fitV_yes HOK.out, HZ.out]) (fitE_yes HOK.out).symm, by (repeat (first | with_reducible exact Below.refl _ _ | with_reducible refine Bs ?_ | with_reducible refine Ba ?_ | with_reducible refine Bd ?_ | with_reducible refine Bn ?_))⟩
      · have hqb : (q == -1) = false := by simp [h1]
        have k2 := tmod_bd (a := p) h0
        have K2 := Lib.hid k2
        have hok : Ok64 (p.tmod q) := by unfold Ok64; omega
        have HOK := Lib.hid hok; clear hok
        go_wp2
        go_quiet (fail)
        go_wp2
        go_roundw
        case rel => exact ⟨q, p.tmod q, rfl, rfl, HQ.out, HOK.out, by rw [← gcdZ_step, HG.out], _, World.drewN_drewN _ _ _⟩
        case measure => have := Nat.mod_lt p.natAbs (show 0 < q.natAbs by omega); simp [intOf, Int.natAbs_tmod]; omega

end Go.Proofs.Ytdbonlpkmncggaa

namespace Go.Proofs.Ytdbonlpkmncggaa
open Go.RowKit

/-- app1 at a step of a region that draws its order: all other blocks are as they were. -/
theorem app1_stepG {P : Program} {ops : Array Oper} {o : Oper} {a : Act} {K : Act → World → Prop} {Q : Exit → Act → World → Prop} {E : Prop} (hgd : o.guard = none) (s x : Operand) (t : TypeId)
    (ho : o.op = .call { callee := .builtin .append, args := #[s, x], argTypes := #[t, t] })
    {e : TypeId} {z : Value} {size bytes : Nat} (ht : P.underlying t = some (.slice e)) (hE : EI P e z size bytes)
    (base : Nat) {v : Value} {n : Nat} {xs : List Value} {W : World} {m : Nat} {cs : Array Value} {T : TypeId} {C : Nat} (hs : a.eval s = v) (hown : W.ownsRow base e size v n xs)
    (hx : a.eval x = .slice (some ⟨W.heap.size, 0, none⟩) 1 C) (hcs : cs.size = size) (h1 : ∀ u ∈ cs.toList, u.oneCell' = true)
    (hbytes : (n + 1) * bytes ≤ 140737488355328) (hbase : base ≤ W.heap.size)
    (h : ∀ v' w', w'.ownsRow base e size v' (n + 1) (xs ++ cs.toList) → Below base W w' → (∀ q, q < W.heap.size → v.ownBlock ≠ some q → w'.heap[q]? = W.heap[q]?) → K (a.put o.dst v') w') :
    if Region.wanted o (yielded ops a.tmps) = true then o.wp P a ((W.alloc (.cells cs T)).drewN m) K Q else E := by
  have hw : Region.wanted o (yielded ops a.tmps) = true := by unfold Region.wanted; rw [hgd]
  rw [if_pos hw]
  obtain ⟨i, hi, hz, hsize, hby, hzs, hsz, hbp⟩ := hE
  have h63 : n + 1 ≤ 140737488355328 := Nat.le_trans (Nat.le_mul_of_pos_right _ hbp) hbytes
  have hown2 : ((W.alloc (.cells cs T)).drewN m).ownsRow base e size v n xs := hown.alloc _
  obtain ⟨v', w', hrun, h2, h3, _⟩ := run_append_own_at (P := P) ((W.alloc (.cells cs T)).drewN m) base t o.type e i z size bytes ht hi hz hsize hby hzs hsz v n xs hown2 ⟨W.heap.size, 0, none⟩ 1 C cs.toList (by simp [hcs]) (by
    intro j u hu
    have hadd : (⟨W.heap.size, 0, none⟩ : Addr).add j = ⟨W.heap.size, j, none⟩ := by unfold Addr.add; split <;> simp_all
    rw [hadd]
    have hb := heap_alloc_new W (.cells cs T)
    show (W.alloc (.cells cs T)).cell? _ = _
    simp only [World.cell?, hb]
    simpa using hu) h1 (by unfold maxLen; omega) hbytes (by show base ≤ (W.alloc (.cells cs T)).heap.size; simp; omega)
  unfold Oper.wp execOp
  simp only [ho, resolve, invoke, builtin, Sem.run_bind, Sem.run_pure, Result.andThen_ok, List.map_toArray, List.map_cons, List.map_nil, hs, hx, hrun]
  refine h v' w' h2 ?_ (fun q hq hne => (h3.block q (by show q < (W.alloc (.cells cs T)).heap.size; simp; omega) (fun h => hne h.symm)).trans (Below.heap_alloc _ _ _ hq))
  refine Below.trans ((Below.refl _ _).alloc hbase (.cells cs T)) ?_
  exact (below_drewN (Below.refl _ _) m).trans ((Below.refl _ _).grown h3 (by show base ≤ (W.alloc (.cells cs T)).heap.size; simp; omega) fun k hk => (hown.lt k hk).1)

/-- app1 at a step of a region that draws its order. -/
theorem app1_step {P : Program} {ops : Array Oper} {o : Oper} {a : Act} {K : Act → World → Prop} {Q : Exit → Act → World → Prop} {E : Prop} (hgd : o.guard = none) (s x : Operand) (t : TypeId)
    (ho : o.op = .call { callee := .builtin .append, args := #[s, x], argTypes := #[t, t] })
    {e : TypeId} {z : Value} {size bytes : Nat} (ht : P.underlying t = some (.slice e)) (hE : EI P e z size bytes)
    (base : Nat) {v : Value} {n : Nat} {xs : List Value} {W : World} {m : Nat} {cs : Array Value} {T : TypeId} {C : Nat} (hs : a.eval s = v) (hown : W.ownsRow base e size v n xs)
    (hx : a.eval x = .slice (some ⟨W.heap.size, 0, none⟩) 1 C) (hcs : cs.size = size) (h1 : ∀ u ∈ cs.toList, u.oneCell' = true)
    (hbytes : (n + 1) * bytes ≤ 140737488355328) (hbase : base ≤ W.heap.size)
    (h : ∀ v' w', w'.ownsRow base e size v' (n + 1) (xs ++ cs.toList) → Below base W w' → K (a.put o.dst v') w') :
    if Region.wanted o (yielded ops a.tmps) = true then o.wp P a ((W.alloc (.cells cs T)).drewN m) K Q else E :=
  app1_stepG hgd s x t ho ht hE base hs hown hx hcs h1 hbytes hbase fun v' w' a b _ => h v' w' a b

theorem i64_wrap {z : Int} (h : -9223372036854775808 ≤ z) (h' : z ≤ 9223372036854775807) : IntKind.i64.wrap z = z := by
  rw [IntKind.wrap_i64]; omega

end Go.Proofs.Ytdbonlpkmncggaa
