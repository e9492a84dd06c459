/-
  Walks of copseref06; the draws between two places.
-/
import Derived.Test.YtoljilbldkbjpaaDrawB
namespace Go.Proofs.Ytoljilbldkbjpaa
open Go.RowKit

theorem rest_law (n : Nat) (h : 0 < n) : (if 18446744073709551615 % n + 1 = n then 0 else 18446744073709551615 % n + 1) = 18446744073709551616 % n := by
  have h1 := Nat.mod_lt 18446744073709551615 h
  have h2 : 18446744073709551616 % n = (18446744073709551615 % n + 1) % n := by
    rw [show (18446744073709551616 : Nat) = 18446744073709551615 + 1 from rfl, Nat.add_mod, Nat.add_mod (18446744073709551615 % n) 1, Nat.mod_mod]
  rw [h2]
  split
  · rename_i e; rw [e, Nat.mod_self]
  · exact (Nat.mod_eq_of_lt (by omega)).symm

set_option maxRecDepth 100000 in
set_option maxHeartbeats 800000 in
theorem rrest_any (n : Nat) (w : World) (hn : (n : Int) ≤ 18446744073709551615) (hp : 0 < n) :
    Calls Try.prog 93 #[.int .u64 n] w fun e w' => e = .returned (.int .u64 ((18446744073709551616 % n : Nat) : Int)) ∧ w = w' := by
  have hl := rest_law n hp
  have h1 := Nat.mod_lt 18446744073709551615 hp
  obtain ⟨m, hm⟩ : ∃ m, 18446744073709551615 % n = m := ⟨_, rfl⟩
  obtain ⟨r, hr⟩ : ∃ r, 18446744073709551616 % n = r := ⟨_, rfl⟩
  rw [hm, hr] at hl
  rw [hm] at h1
  rw [hr]
  have em : (18446744073709551615 : Int) % (n : Int) = (m : Int) := by have : (18446744073709551615 : Int) % (n : Int) = ((18446744073709551615 % n : Nat) : Int) := rfl; rw [this, hm]
  have n0 : ((n : Int) == 0) = false := by simp; omega
  have mb : (m : Int) + 1 ≤ (n : Int) := by omega
  have HL := Lib.hid hl
  clear hl hm hr h1
  by_cases he : m + 1 = n
  · have eb : ((m : Int) + 1 == (n : Int)) = true := by simp; omega
    have HE := Lib.hid he; clear he
    go_enter Try.func93, Try.ntmps93
    go_wp2
    go_ret
    exact ⟨ret_int (by have := HL.out; rw [if_pos HE.out] at this; omega), rfl⟩
  · have eb : ((m : Int) + 1 == (n : Int)) = false := by simp; omega
    have HE := Lib.hid he; clear he
    go_enter Try.func93, Try.ntmps93
    go_wp2
    go_ret
    exact ⟨ret_int (by have := HL.out; rw [if_neg HE.out] at this; omega), rfl⟩

set_option maxRecDepth 100000 in
set_option maxHeartbeats 800000 in
theorem rtop_any (n : Nat) (w : World) (hn : (n : Int) ≤ 18446744073709551615) :
    Calls Try.prog 70 #[.int .u64 n] w fun e w' => e = .returned (.int .u64 (topN n : Int)) ∧ w = w' := by
  rcases Nat.eq_zero_or_pos n with h0 | h0
  · subst h0
    go_enter Try.func70, Try.ntmps70
    go_wp2
    go_ret
    exact ⟨rfl, rfl⟩
  · have hr := fun W => rrest_any n W hn h0
    obtain ⟨r, hr2⟩ : ∃ r, 18446744073709551616 % n = r := ⟨_, rfl⟩
    have hrn : r < n := by rw [← hr2]; exact Nat.mod_lt _ h0
    have ht : topN n = 18446744073709551615 - r := by unfold topN; rw [if_neg (by omega), hr2]
    rw [hr2] at hr
    have hrl : (r : Int) ≤ 18446744073709551615 := by omega
    have n0 : ((n : Int) == 0) = false := by simp; omega
    have HR := Lib.hid hr
    have HT := Lib.hid ht
    clear hr hr2 ht hrn
    go_enter Try.func70, Try.ntmps70
    go_wp2_with (go_at_call 93; refine (HR.out _).mono ?_; rintro e w1 ⟨rfl, rfl⟩)
    go_ret
    exact ⟨ret_int (by rw [HT.out]; omega), rfl⟩

set_option maxRecDepth 100000 in
set_option maxHeartbeats 1000000 in
theorem rbound_bad (v : Value) (a : Int) (n : Nat) (tries : Int) (w : World) (h : n = 0 ∨ a < 0 ∨ tries < 1 ∨ 64 < tries) :
    Calls Try.prog 45 #[v, .int .i64 a, .int .u64 n, .int .i64 tries] w fun e w' => e = .returned (.tuple #[.int .u64 0, .int .i64 0, .int .i64 1]) ∧ w = w' := by
  have hc : n = 0 ∨ (((n : Int) == 0) = false ∧ a < 0) ∨ (((n : Int) == 0) = false ∧ ¬ a < 0 ∧ tries < 1) ∨ (((n : Int) == 0) = false ∧ ¬ a < 0 ∧ ¬ tries < 1 ∧ 64 < tries) := by
    by_cases h0 : n = 0
    · exact .inl h0
    · have : ((n : Int) == 0) = false := by simp; omega
      by_cases h1 : a < 0
      · exact .inr (.inl ⟨this, h1⟩)
      · by_cases h2 : tries < 1
        · exact .inr (.inr (.inl ⟨this, h1, h2⟩))
        · exact .inr (.inr (.inr ⟨this, h1, h2, by omega⟩))
  clear h
  rcases hc with rfl | ⟨h0, h1⟩ | ⟨h0, h1, h2⟩ | ⟨h0, h1, h2, h3⟩
  all_goals
    go_enter Try.func45, Try.ntmps45
    go_wp2
    go_ret3
    exact ⟨rfl, rfl⟩

set_option maxRecDepth 100000 in
set_option maxHeartbeats 1000000 in
theorem rbound_any (v : Value) (l : List Int) (a : Nat) (n : Nat) (t : Nat) (w : World) (h : Ints .u64 w v l) (hu : AllU l) (hn : (n : Int) ≤ 18446744073709551615) (hn0 : 0 < n) (ht : 1 ≤ t) (ht2 : t ≤ 64) (ha : (a : Int) ≤ 9223372036854775807) :
    Calls Try.prog 45 #[v, .int .i64 a, .int .u64 n, .int .i64 t] w fun e w' => e = .returned (.tuple #[.int .u64 (boundL l n t a).1, .int .i64 (boundL l n t a).2.1, .int .i64 (boundL l n t a).2.2]) ∧ ∃ d, w' = w.drewN d := by
  obtain ⟨ad, c, rfl, _, _, h3, hA⟩ := h
  have HA := Lib.hid hA; clear hA
  have HU := Lib.hid hu; clear hu
  have n0 : ((n : Int) == 0) = false := by simp; omega
  have n1 : (n : Int) ≠ 0 := by omega
  have htop := fun W => rtop_any n W hn
  obtain ⟨T, hT⟩ : ∃ T, topN n = T := ⟨_, rfl⟩
  rw [hT] at htop
  have HTOP := Lib.hid htop
  have HT := Lib.hid hT
  clear htop hT
  obtain ⟨R, hR⟩ : ∃ R, boundL l n t a = R := ⟨_, rfl⟩
  rw [hR]
  have HR := Lib.hid hR; clear hR
  go_enter Try.func45, Try.ntmps45
  go_wp2
  go_loopw [1, 11] (fun at_ i wr => ∃ k : Nat, i = .int .i64 k ∧ at_ = .int .i64 ((a + k : Nat) : Int) ∧ k ≤ t ∧ (k = 0 ∨ a + k ≤ l.length) ∧ boundL l n (t - k) (a + k) = R ∧ ∃ d, wr = w.drewN d) (fun _ i _ => t - (intOf i).toNat)
  case atStart => exact ⟨0, rfl, rfl, by omega, .inl rfl, HR.out, 0, rfl⟩
  case round =>
    obtain ⟨k, rfl, rfl, hk, hkl, hr, d, rfl⟩ := hrel
    have HR := Lib.hid hr; clear hr
    obtain ⟨p, hp⟩ : ∃ p, a + k = p := ⟨_, rfl⟩
    rw [hp] at hkl HR ⊢
    have HP := Lib.hid hp; clear hp
    have hp64 : (p : Int) ≤ 9223372036854775807 := by have := HP.out; omega
    by_cases hlt : k < t
    · by_cases hin : p < l.length
      · obtain ⟨x, hx⟩ := getElem?_ex hin
        obtain ⟨b1, o1, rfl, hb1, hc1⟩ := HA.out p x hx
        have HX := Lib.hid hx; clear hx
        have hxu := HU.out x (List.mem_of_getElem? HX.out)
        by_cases hxt : x ≤ (T : Int)
        · have hfin : R = (x % (n : Int), (p : Int) + 1, 0) := by
            rw [← HR.out, show t - k = (t - k - 1) + 1 by omega, boundL, HX.out]
            simp only [HT.out, if_pos hxt]
          have HF := Lib.hid hfin; clear hfin
          go_wp2
          go_quiet ((go_at_call 70; exact quiet_add_left (HTOP.out _)))
          go_wp2
          go_ret3
          rw [HF.out]
          exact ⟨rfl, _, rfl⟩
        · have hnx : boundL l n (t - (k + 1)) (p + 1) = R := by
            rw [← HR.out, show t - k = (t - (k + 1)) + 1 by omega, boundL, HX.out]
            simp only [HT.out, if_neg hxt]
          have HNX := Lib.hid hnx; clear hnx
          go_wp2
          go_quiet ((go_at_call 70; exact quiet_add_left (HTOP.out _)))
          go_wp2
          go_roundw
          case rel => exact ⟨k + 1, by go_num, by have := HP.out; go_num, by omega, .inr (by have := HP.out; omega), by rw [show a + (k + 1) = p + 1 by have := HP.out; omega]; exact HNX.out, _, rfl⟩
          case measure => simp [intOf] <;> omega
      · have hfin : R = (0, 0, 60) := by
          rw [← HR.out, show t - k = (t - k - 1) + 1 by omega, boundL, List.getElem?_eq_none (by omega)]
        have HF := Lib.hid hfin; clear hfin
        go_wp2
        go_ret3
        rw [HF.out]
        exact ⟨rfl, _, rfl⟩
    · obtain rfl : k = t := by omega
      have hfin : R = (0, 0, 61) := by rw [← HR.out, Nat.sub_self]; rfl
      have HF := Lib.hid hfin; clear hfin
      go_wp2
      go_ret3
      rw [HF.out]
      exact ⟨rfl, _, rfl⟩

theorem rboundB_any (v : Value) (l : List Int) (a : Int) (n : Nat) (t : Int) (w : World) (h : Ints .u64 w v l) (hu : AllU l) (hn : (n : Int) ≤ 18446744073709551615) (ha : Ok64 a) :
    Calls Try.prog 45 #[v, .int .i64 a, .int .u64 n, .int .i64 t] w fun e w' => e = .returned (.tuple #[.int .u64 (boundB l a n t).1, .int .i64 (boundB l a n t).2.1, .int .i64 (boundB l a n t).2.2]) ∧ ∃ d, w' = w.drewN d := by
  by_cases hb : n = 0 ∨ a < 0 ∨ t < 1 ∨ 64 < t
  · rw [boundB, if_pos hb]
    exact (rbound_bad v a n t w hb).mono fun e w' ⟨h1, h2⟩ => ⟨h1, 0, h2 ▸ rfl⟩
  · rw [boundB, if_neg hb]
    have := rbound_any v l a.toNat n t.toNat w h hu hn (by omega) (by omega) (by omega) (by unfold Ok64 at ha; omega)
    rw [Int.toNat_of_nonneg (show 0 ≤ a by omega), Int.toNat_of_nonneg (show 0 ≤ t by omega)] at this
    exact this

set_option maxRecDepth 100000 in
set_option maxHeartbeats 1000000 in
theorem rrange_any (v : Value) (l : List Int) (a lo hi t : Int) (w : World) (h : Ints .u64 w v l) (hu : AllU l) (ha : Ok64 a) (hlo : Ok64 lo) (hhi : Ok64 hi) :
    Calls Try.prog 51 #[v, .int .i64 a, .int .i64 lo, .int .i64 hi, .int .i64 t] w fun e w' => e = .returned (.tuple #[.int .i64 (rangeB l a lo hi t).1, .int .i64 (rangeB l a lo hi t).2.1, .int .i64 (rangeB l a lo hi t).2.2]) ∧ ∃ d, w' = w.drewN d := by
  by_cases hb : hi < lo ∨ a < 0 ∨ t < 1 ∨ 64 < t
  · rw [rangeB, if_pos hb]
    have hc : hi < lo ∨ (¬ hi < lo ∧ a < 0) ∨ (¬ hi < lo ∧ ¬ a < 0 ∧ t < 1) ∨ (¬ hi < lo ∧ ¬ a < 0 ∧ ¬ t < 1 ∧ 64 < t) := by omega
    clear hb
    rcases hc with h1 | ⟨h1, h2⟩ | ⟨h1, h2, h3⟩ | ⟨h1, h2, h3, h4⟩
    all_goals
      go_enter Try.func51, Try.ntmps51
      go_wp2
      go_ret3
      exact ⟨rfl, 0, rfl⟩
  · obtain ⟨h1, h2, h3, h4⟩ : ¬ hi < lo ∧ ¬ a < 0 ∧ ¬ t < 1 ∧ ¬ 64 < t := by omega
    have hm := many_eq hlo hhi (by omega)
    rw [rangeB, if_neg hb]
    by_cases hf : hi - lo = 18446744073709551615
    · rw [if_pos hf] at hm ⊢
      obtain ⟨ad, c, rfl, _, _, g3, hA⟩ := h
      have HA := Lib.hid hA
      clear hf hb hA
      obtain ⟨k, rfl⟩ := Int.eq_ofNat_of_zero_le (show 0 ≤ a by omega)
      by_cases hg : (l.length : Int) ≤ k
      · rw [if_pos hg]
        go_enter Try.func51, Try.ntmps51
        go_wp2
        go_ret3
        exact ⟨rfl, 0, rfl⟩
      · rw [if_neg hg]
        obtain ⟨x, hx⟩ := getElem?_ex (l := l) (k := k) (by omega)
        obtain ⟨b1, o1, rfl, hb1, hc1⟩ := HA.out k x hx
        rw [Int.toNat_natCast, getD_of hx]
        have HX := Lib.hid hx; clear hx
        go_enter Try.func51, Try.ntmps51
        go_wp2
        go_ret3
        exact ⟨rfl, 0, rfl⟩
    · rw [if_neg hf] at hm ⊢
      obtain ⟨n, hn⟩ : ∃ n : Nat, hi - lo + 1 = (n : Int) := ⟨(hi - lo + 1).toNat, by omega⟩
      have hn64 : (n : Int) ≤ 18446744073709551615 := by unfold Ok64 at hlo hhi; omega
      have hn0 : 0 < n := by omega
      rw [hn] at hm ⊢
      rw [Int.toNat_natCast]
      have hbd := fun W hW => rbound_any v l a.toNat n t.toNat W hW hu hn64 hn0 (by omega) (by omega) (by unfold Ok64 at ha; omega)
      rw [Int.toNat_of_nonneg (show 0 ≤ a by omega), Int.toNat_of_nonneg (show 0 ≤ t by omega)] at hbd
      have hok := boundL_ok l hu n t.toNat a.toNat
      generalize boundL l n t.toNat a.toNat = R at *
      obtain ⟨x, y, z⟩ := R
      simp only at hok hbd ⊢
      have n0 : ((n : Int) == 0) = false := by simp; omega
      have HBD := Lib.hid hbd
      have HI := Lib.hid h
      have HN := Lib.hid hn
      obtain ⟨ad, c, rfl⟩ := h.shape
      by_cases hz : z = 0
      · obtain ⟨b, x', g1, g2, g3, g4, g5, g6, g7⟩ := hok hz
        have hxn : x' % n < n := Nat.mod_lt _ hn0
        have hx0 : 0 ≤ x ∧ x < (n : Int) := by omega
        have hback := range_back hlo hx0.1 (by unfold Ok64 at hhi; omega)
        subst hz
        have HF : Hid ((if (0 : Int) ≠ 0 then ((0 : Int), (0 : Int), (0 : Int)) else (lo + x, y, 0)) = (lo + x, y, 0)) := by simp [Hid]
        rw [HF.out]
        have HBK := Lib.hid hback
        clear hback hok g1 g2 g3 g4 g5 g6 g7 hxn hbd h hb hf hn HF
        go_enter Try.func51, Try.ntmps51
        go_wp2_with (go_at_call 45; refine (HBD.out _ HI.out).mono ?_; rintro e w1 ⟨rfl, d, rfl⟩)
        go_ret3
        exact ⟨ret3 HBK.out rfl rfl, d, rfl⟩
      · have hzb : (z != 0) = true := by simp [hz]
        rw [if_pos hz]
        clear hok hbd h hb hf hn
        go_enter Try.func51, Try.ntmps51
        go_wp2_with (go_at_call 45; refine (HBD.out _ HI.out).mono ?_; rintro e w1 ⟨rfl, d, rfl⟩)
        go_ret3
        exact ⟨rfl, d, rfl⟩

theorem boundB_err (l : List Int) (a : Int) (n : Nat) (t : Int) (h : (boundB l a n t).2.2 ≠ 0) : (boundB l a n t).2.1 = 0 := by
  unfold boundB at h ⊢
  by_cases hb : n = 0 ∨ a < 0 ∨ t < 1 ∨ 64 < t
  · rw [if_pos hb]
  · rw [if_neg hb] at h ⊢
    exact (boundL_err l n _ _ h).2.1

end Go.Proofs.Ytoljilbldkbjpaa
