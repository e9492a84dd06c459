/-
  Walks of package draw: ranges, coins; the draws between two places.
-/
import Derived.Test.YtoljilbldkbjpaaDrawA
namespace Go.Proofs.Ytoljilbldkbjpaa
open Go.RowKit

theorem boundL_err (l : List Int) (n : Nat) : ∀ (t a : Nat), (boundL l n t a).2.2 ≠ 0 → (boundL l n t a).1 = 0 ∧ (boundL l n t a).2.1 = 0 ∧ ((boundL l n t a).2.2 = 60 ∨ (boundL l n t a).2.2 = 61) := by
  intro t
  induction t with
  | zero => intro a _; simp [boundL]
  | succ t ih =>
    intro a h
    cases hx : l[a]? with
    | none => simp [boundL, hx]
    | some x =>
      by_cases hc : x ≤ (topN n : Int)
      · simp [boundL, hx, hc] at h
      · simp only [boundL, hx, if_neg hc] at h ⊢; exact ih (a + 1) h

/-- What is told of a draw that counts. -/
theorem boundL_ok (l : List Int) (hu : AllU l) (n : Nat) : ∀ (t a : Nat), (boundL l n t a).2.2 = 0 →
    ∃ b x : Nat, a ≤ b ∧ b < a + t ∧ l[b]? = some (x : Int) ∧ (x : Int) ≤ topN n ∧ (boundL l n t a).1 = ((x % n : Nat) : Int) ∧ (boundL l n t a).2.1 = (b : Int) + 1 ∧ ∀ j, a ≤ j → j < b → ∃ y, l[j]? = some y ∧ (topN n : Int) < y := by
  intro t
  induction t with
  | zero => intro a h; simp [boundL] at h
  | succ t ih =>
    intro a h
    cases hx : l[a]? with
    | none => simp [boundL, hx] at h
    | some x =>
      have hxu := hu x (List.mem_of_getElem? hx)
      by_cases hc : x ≤ (topN n : Int)
      · obtain ⟨y, rfl⟩ := Int.eq_ofNat_of_zero_le hxu.1
        simp only [boundL, hx, if_pos hc]
        exact ⟨a, y, Nat.le_refl _, by omega, hx, hc, rfl, rfl, fun j h1 h2 => by omega⟩
      · simp only [boundL, hx, if_neg hc] at h ⊢
        obtain ⟨b, y, h1, h2, h3, h4, h5, h6, h7⟩ := ih (a + 1) h
        refine ⟨b, y, by omega, by omega, h3, h4, h5, h6, fun j g1 g2 => ?_⟩
        rcases Nat.eq_or_lt_of_le g1 with g | g
        · subst g; exact ⟨x, hx, by omega⟩
        · exact h7 j g g2

theorem boundB_any (v : Value) (l : List Int) (a : Int) (n : Nat) (t : Int) (w : World) (h : Ints .u64 w v l) (hu : AllU l) (hn : (n : Int) ≤ 18446744073709551615) (ha : Ok64 a) :
    Calls Try.prog 41 #[v, .int .i64 a, .int .u64 n, .int .i64 t] w fun e w' => e = .returned (.tuple #[.int .u64 (boundB l a n t).1, .int .i64 (boundB l a n t).2.1, .int .i64 (boundB l a n t).2.2]) ∧ Below w.heap.size w w' := by
  by_cases hb : n = 0 ∨ a < 0 ∨ t < 1 ∨ 64 < t
  · rw [boundB, if_pos hb]
    exact (bound_bad v a n t w hb).mono fun e w' ⟨h1, h2⟩ => ⟨h1, h2 ▸ Below.refl _ _⟩
  · rw [boundB, if_neg hb]
    have := bound_any v l a.toNat n t.toNat w h hu hn (by omega) (by omega) (by omega) (by unfold Ok64 at ha; omega)
    rw [Int.toNat_of_nonneg (show 0 ≤ a by omega), Int.toNat_of_nonneg (show 0 ≤ t by omega)] at this
    exact this

def rangeB (l : List Int) (a lo hi t : Int) : Int × Int × Int :=
  if hi < lo ∨ a < 0 ∨ t < 1 ∨ 64 < t then (0, 0, 1)
  else if hi - lo = 18446744073709551615 then (if (l.length : Int) ≤ a then (0, 0, 60) else (wrap64 (l.getD a.toNat 0), a + 1, 0))
  else if (boundL l (hi - lo + 1).toNat t.toNat a.toNat).2.2 ≠ 0 then (0, 0, (boundL l (hi - lo + 1).toNat t.toNat a.toNat).2.2)
  else (lo + (boundL l (hi - lo + 1).toNat t.toNat a.toNat).1, (boundL l (hi - lo + 1).toNat t.toNat a.toNat).2.1, 0)

theorem many_eq {lo hi : Int} (h1 : Ok64 lo) (h2 : Ok64 hi) (h : lo ≤ hi) : IntKind.u64.wrap (IntKind.u64.wrap (IntKind.u64.wrap hi - IntKind.u64.wrap lo) + 1) = (if hi - lo = 18446744073709551615 then 0 else hi - lo + 1) := by
  unfold Ok64 at h1 h2
  simp only [IntKind.wrap_u64]
  split <;> omega

theorem range_back {lo k : Int} (h1 : Ok64 lo) (h2 : 0 ≤ k) (h3 : lo + k ≤ 9223372036854775807) : wrap64 (IntKind.u64.wrap (IntKind.u64.wrap lo + k)) = lo + k := by
  unfold Ok64 at h1
  simp only [IntKind.wrap_u64, wrap64]
  omega

set_option maxRecDepth 100000 in
set_option maxHeartbeats 1000000 in
theorem range_any (v : Value) (l : List Int) (a lo hi t : Int) (w : World) (h : Ints .u64 w v l) (hu : AllU l) (ha : Ok64 a) (hlo : Ok64 lo) (hhi : Ok64 hi) :
    Calls Try.prog 72 #[v, .int .i64 a, .int .i64 lo, .int .i64 hi, .int .i64 t] w fun e w' => e = .returned (.tuple #[.int .i64 (rangeB l a lo hi t).1, .int .i64 (rangeB l a lo hi t).2.1, .int .i64 (rangeB l a lo hi t).2.2]) ∧ Below w.heap.size w w' := by
  by_cases hb : hi < lo ∨ a < 0 ∨ t < 1 ∨ 64 < t
  · rw [rangeB, if_pos hb]
    have hc : hi < lo ∨ (¬ hi < lo ∧ a < 0) ∨ (¬ hi < lo ∧ ¬ a < 0 ∧ t < 1) ∨ (¬ hi < lo ∧ ¬ a < 0 ∧ ¬ t < 1 ∧ 64 < t) := by omega
    clear hb
    rcases hc with h1 | ⟨h1, h2⟩ | ⟨h1, h2, h3⟩ | ⟨h1, h2, h3, h4⟩
    all_goals
      go_enter Try.func72, Try.ntmps72
      go_wp2
      go_ret3
      exact ⟨rfl, Below.refl _ _⟩
  · obtain ⟨h1, h2, h3, h4⟩ : ¬ hi < lo ∧ ¬ a < 0 ∧ ¬ t < 1 ∧ ¬ 64 < t := by omega
    have hm := many_eq hlo hhi (by omega)
    rw [rangeB, if_neg hb]
    by_cases hf : hi - lo = 18446744073709551615
    · rw [if_pos hf] at hm ⊢
      have hn := fun W hW => next_any v l a W hW
      obtain ⟨x, hx⟩ : ∃ x, nextV l a = x := ⟨_, rfl⟩
      obtain ⟨y, hy⟩ : ∃ y, nextA l a = y := ⟨_, rfl⟩
      obtain ⟨z, hz⟩ : ∃ z, nextE l a = z := ⟨_, rfl⟩
      rw [hx, hy, hz] at hn
      have hfin : (if (l.length : Int) ≤ a then ((0 : Int), (0 : Int), (60 : Int)) else (wrap64 (l.getD a.toNat 0), a + 1, 0)) = (wrap64 x, y, z) := by
        rw [← hx, ← hy, ← hz, nextV, if_neg h2, nextA, nextE, if_neg h2]
        by_cases hg : (l.length : Int) ≤ a
        · rw [if_pos hg, if_pos (.inr hg), if_pos hg]
          have e0 : l.getD a.toNat 0 = 0 := by simp [List.getElem?_eq_none (show l.length ≤ a.toNat by omega)]
          rw [e0, show wrap64 0 = 0 by unfold wrap64; omega]
        · rw [if_neg hg, if_neg (by omega), if_neg hg]
      rw [hfin]
      have HN := Lib.hid hn
      have HI := Lib.hid h
      obtain ⟨ad, c, rfl⟩ := h.shape
      clear hn hx hy hz hfin hf h hb
      go_enter Try.func72, Try.ntmps72
      go_wp2_with (go_at_call 91; refine (HN.out _ HI.out).mono ?_; rintro e w1 ⟨rfl, rfl⟩)
      go_ret3
      exact ⟨rfl, Below.refl _ _⟩
    · rw [if_neg hf] at hm ⊢
      obtain ⟨n, hn⟩ : ∃ n : Nat, hi - lo + 1 = (n : Int) := ⟨(hi - lo + 1).toNat, by omega⟩
      have hn64 : (n : Int) ≤ 18446744073709551615 := by unfold Ok64 at hlo hhi; omega
      have hn0 : 0 < n := by omega
      rw [hn] at hm ⊢
      rw [Int.toNat_natCast]
      have hbd := fun W hW => bound_any v l a.toNat n t.toNat W hW hu hn64 hn0 (by omega) (by omega) (by unfold Ok64 at ha; omega)
      rw [Int.toNat_of_nonneg (show 0 ≤ a by omega), Int.toNat_of_nonneg (show 0 ≤ t by omega)] at hbd
      have herr := boundL_err l n t.toNat a.toNat
      have hok := boundL_ok l hu n t.toNat a.toNat
      generalize boundL l n t.toNat a.toNat = R at *
      obtain ⟨x, y, z⟩ := R
      simp only at herr hok hbd ⊢
      have n0 : ((n : Int) == 0) = false := by simp; omega
      have HBD := Lib.hid hbd
      have HI := Lib.hid h
      have HN := Lib.hid hn
      obtain ⟨ad, c, rfl⟩ := h.shape
      by_cases hz : z = 0
      · obtain ⟨b, x', g1, g2, g3, g4, g5, g6, g7⟩ := hok hz
        have hxn : x' % n < n := Nat.mod_lt _ hn0
        have hx0 : 0 ≤ x ∧ x < (n : Int) := by omega
        have hback := range_back hlo hx0.1 (by unfold Ok64 at hhi; omega)
        subst hz
        have HF : Hid ((if (0 : Int) ≠ 0 then ((0 : Int), (0 : Int), (0 : Int)) else (lo + x, y, 0)) = (lo + x, y, 0)) := by simp [Hid]
        rw [HF.out]
        have HBK := Lib.hid hback
        clear hback herr hok g1 g2 g3 g4 g5 g6 g7 hxn hbd h hb hf hn HF
        go_enter Try.func72, Try.ntmps72
        go_wp2_with (go_at_call 41; refine (HBD.out _ HI.out).mono ?_; rintro e w1 ⟨rfl, hbw⟩)
        go_ret3
        exact ⟨ret3 HBK.out rfl rfl, hbw⟩
      · have hzb : (z != 0) = true := by simp [hz]
        rw [if_pos hz]
        clear herr hok hbd h hb hf hn
        go_enter Try.func72, Try.ntmps72
        go_wp2_with (go_at_call 41; refine (HBD.out _ HI.out).mono ?_; rintro e w1 ⟨rfl, hbw⟩)
        go_ret3
        exact ⟨rfl, hbw⟩

def coinB (l : List Int) (a part whole t : Int) : Bool × Int × Int :=
  if whole < 1 ∨ part < 0 ∨ whole < part then (false, 0, 1)
  else if (boundB l a whole.toNat t).2.2 ≠ 0 then (false, 0, (boundB l a whole.toNat t).2.2)
  else (decide ((boundB l a whole.toNat t).1 < part), (boundB l a whole.toNat t).2.1, 0)

end Go.Proofs.Ytoljilbldkbjpaa
