/-
  Walks of package draw.
-/
import Derived.Test.YtoljilbldkbjpaaDiv64
import Derived.Test.YtoljilbldkbjpaaRefBig2
import Derived.Test.YtoljilbldkbjpaaNumA
import Derived.WalkMore
namespace Go.Proofs.Ytoljilbldkbjpaa
open Go.RowKit

def topN (n : Nat) : Nat := if n = 0 then 0 else 18446744073709551615 - 18446744073709551616 % n
def shareN (n : Nat) : Nat := if n < 2 then 0 else 18446744073709551616 / n

set_option maxRecDepth 100000 in
set_option maxHeartbeats 800000 in
theorem top_any (n : Nat) (w : World) (hn : (n : Int) ≤ 18446744073709551615) :
    Calls Try.prog 69 #[.int .u64 n] w fun e w' => e = .returned (.int .u64 (topN n : Int)) ∧ ∃ d, w' = w.drewN d := by
  rcases Nat.eq_zero_or_pos n with h0 | h0
  · subst h0
    go_enter Try.func69, Try.ntmps69
    go_wp2
    go_ret
    exact ⟨rfl, 0, rfl⟩
  · obtain ⟨m, hm⟩ : ∃ m, 1 % n = m := ⟨_, rfl⟩
    have hmn : m < n := by rw [← hm]; exact Nat.mod_lt _ h0
    have hr : (m * 18446744073709551616 + 0) % n = 18446744073709551616 % n := by
      rw [← hm, Nat.add_zero, Nat.mod_mul_mod, Nat.one_mul]
    have hd := fun W => div64_any m 0 n W (by omega) hn hmn
    rw [hr] at hd
    obtain ⟨q, hq⟩ : ∃ q, (m * 18446744073709551616 + 0) / n = q := ⟨_, rfl⟩
    obtain ⟨r, hr2⟩ : ∃ r, 18446744073709551616 % n = r := ⟨_, rfl⟩
    have hrn : r < n := by rw [← hr2]; exact Nat.mod_lt _ h0
    rw [hq, hr2] at hd
    have hrl : (r : Int) ≤ 18446744073709551615 := by omega
    have ht : topN n = 18446744073709551615 - r := by unfold topN; rw [if_neg (by omega), hr2]
    have em : (1 : Int) % (n : Int) = (m : Int) := by have : (1 : Int) % (n : Int) = ((1 % n : Nat) : Int) := rfl; rw [this, hm]
    have HD : Hid (∀ W : World, Calls Try.prog 92 #[.int .u64 m, .int .u64 0, .int .u64 n] W fun e w' => e = .returned (.tuple #[.int .u64 q, .int .u64 r]) ∧ ∃ n, w' = W.drewN n) := hd
    have HT := Lib.hid ht
    have n0 : ((n : Int) == 0) = false := by simp; omega
    clear hd ht hm hr hq hr2 hrn
    go_enter Try.func69, Try.ntmps69
    go_wp2_with (go_at_call 92; refine (HD.out _).mono ?_; rintro e w1 ⟨rfl, d, rfl⟩)
    go_ret
    exact ⟨ret_int (by rw [HT.out]; omega), d, rfl⟩

/-- The draw at a place, the next place, how it failed. -/
def nextV (l : List Int) (a : Int) : Int := if a < 0 then 0 else l.getD a.toNat 0
def nextA (l : List Int) (a : Int) : Int := if a < 0 ∨ (l.length : Int) ≤ a then 0 else a + 1
def nextE (l : List Int) (a : Int) : Int := if a < 0 then 1 else if (l.length : Int) ≤ a then 60 else 0

set_option maxHeartbeats 400000 in
theorem next_any (v : Value) (l : List Int) (a : Int) (w : World) (h : Ints .u64 w v l) :
    Calls Try.prog 91 #[v, .int .i64 a] w fun e w' => e = .returned (.tuple #[.int .u64 (nextV l a), .int .i64 (nextA l a), .int .i64 (nextE l a)]) ∧ w = w' := by
  obtain ⟨ad, c, rfl, _, _, h3, h⟩ := h
  have H := Lib.hid h; clear h
  by_cases h0 : a < 0
  · go_enter Try.func91, Try.ntmps91
    go_wp2
    go_ret3
    exact ⟨ret3 (by rw [nextV, if_pos h0]) (by rw [nextA, if_pos (.inl h0)]) (by rw [nextE, if_pos h0]), rfl⟩
  · by_cases h1 : (l.length : Int) ≤ a
    · have e : l.getD a.toNat 0 = 0 := by simp [List.getElem?_eq_none (show l.length ≤ a.toNat by omega)]
      have E := Lib.hid e; clear e
      go_enter Try.func91, Try.ntmps91
      go_wp2
      go_ret3
      exact ⟨ret3 (by rw [nextV, if_neg (by omega), E.out]) (by rw [nextA, if_pos (.inr h1)]) (by rw [nextE, if_neg (by omega), if_pos h1]), rfl⟩
    · obtain ⟨k, rfl⟩ := Int.eq_ofNat_of_zero_le (show 0 ≤ a by omega)
      obtain ⟨x, hx⟩ := getElem?_ex (l := l) (k := k) (by omega)
      obtain ⟨b1, o1, rfl, hb1, hc1⟩ := H.out k x hx
      have HX := Lib.hid hx; clear hx
      go_enter Try.func91, Try.ntmps91
      go_wp2
      go_ret3
      exact ⟨ret3 (by rw [nextV, if_neg (by omega)]; simp [HX.out]) (by rw [nextA, if_neg (by omega)]) (by rw [nextE, if_neg (by omega), if_neg (by omega)]), rfl⟩

def leftI (l : List Int) (a : Int) : Int := if a < 0 then 0 else if (l.length : Int) ≤ a then 0 else l.length - a

/-- The method of a source of draws. -/
theorem snext_yes (g : Nat) (v : Value) (l : List Int) (k : Nat) (x : Int) (w : World) (h : Ints .u64 w v l) (hx : l[k]? = some x) (c0 : w.cell? ⟨g, 0, none⟩ = some v) (c1 : w.cell? ⟨g, 1, none⟩ = some (.int .i64 k)) (f1 : w.frozen? ⟨g, 1, none⟩ = false) :
    Calls Try.prog 68 #[.pointer (some ⟨g, 0, none⟩)] w fun e w' => e = .returned (.tuple #[.int .u64 x, .bool true]) ∧ ∃ d, w' = (w.drewN d).setCell ⟨g, 1, none⟩ (.int .i64 ((k : Int) + 1)) := by
  have hn := fun d => next_any v l k (w.drewN d) (h.drewN d)
  have hk : k < l.length := (List.getElem?_eq_some_iff.1 hx).1
  rw [nextV, if_neg (by omega), nextA, if_neg (by omega), nextE, if_neg (by omega), if_neg (by omega), Int.toNat_natCast, getD_of hx] at hn
  have HN := Lib.hid hn; clear hn
  obtain ⟨ad, c, rfl⟩ := h.shape
  clear h hx hk
  go_enter Try.func68, Try.ntmps68
  go_wp2
  go_quiet ((go_at_call 91; exact quiet_left (HN.out _)))
  go_wp2
  go_ret2
  exact ⟨rfl, _, rfl⟩

theorem snext_no (g : Nat) (v : Value) (l : List Int) (k : Nat) (w : World) (h : Ints .u64 w v l) (hk : l.length ≤ k) (c0 : w.cell? ⟨g, 0, none⟩ = some v) (c1 : w.cell? ⟨g, 1, none⟩ = some (.int .i64 k)) :
    Calls Try.prog 68 #[.pointer (some ⟨g, 0, none⟩)] w fun e w' => e = .returned (.tuple #[.int .u64 0, .bool false]) ∧ ∃ d, w' = w.drewN d := by
  have hn := fun d => next_any v l k (w.drewN d) (h.drewN d)
  have e0 : l.getD k 0 = 0 := by simp [List.getElem?_eq_none hk]
  rw [nextV, if_neg (by omega), nextA, if_pos (by omega), nextE, if_neg (by omega), if_pos (by omega), Int.toNat_natCast, e0] at hn
  have HN := Lib.hid hn; clear hn
  obtain ⟨ad, c, rfl⟩ := h.shape
  clear h hk e0
  go_enter Try.func68, Try.ntmps68
  go_wp2
  go_quiet ((go_at_call 91; exact quiet_left (HN.out _)))
  go_wp2
  go_ret2
  exact ⟨rfl, _, rfl⟩

/-- A draw that counts, of so many tries from a place on: what it leaves, the place behind it, how it failed. -/
def boundL (l : List Int) (n : Nat) : Nat → Nat → Int × Int × Int
  | 0, _ => (0, 0, 61)
  | t + 1, at_ => match l[at_]? with
    | none => (0, 0, 60)
    | some x => if x ≤ (topN n : Int) then (x % (n : Int), (at_ : Int) + 1, 0) else boundL l n t (at_ + 1)

def boundB (l : List Int) (a : Int) (n : Nat) (tries : Int) : Int × Int × Int :=
  if n = 0 ∨ a < 0 ∨ tries < 1 ∨ 64 < tries then (0, 0, 1) else boundL l n tries.toNat a.toNat

def AllU (l : List Int) : Prop := ∀ x ∈ l, 0 ≤ x ∧ x ≤ 18446744073709551615

theorem topN_le (n : Nat) : (topN n : Int) ≤ 18446744073709551615 := by unfold topN; split <;> omega

theorem tup3_bad {l : List Int} {a : Int} {n : Nat} {t : Int} (h : n = 0 ∨ a < 0 ∨ t < 1 ∨ 64 < t) : boundB l a n t = (0, 0, 1) := if_pos h

set_option maxRecDepth 100000 in
set_option maxHeartbeats 1000000 in
theorem bound_bad (v : Value) (a : Int) (n : Nat) (tries : Int) (w : World) (h : n = 0 ∨ a < 0 ∨ tries < 1 ∨ 64 < tries) :
    Calls Try.prog 41 #[v, .int .i64 a, .int .u64 n, .int .i64 tries] w fun e w' => e = .returned (.tuple #[.int .u64 0, .int .i64 0, .int .i64 1]) ∧ w = w' := by
  have hc : n = 0 ∨ (((n : Int) == 0) = false ∧ a < 0) ∨ (((n : Int) == 0) = false ∧ ¬ a < 0 ∧ tries < 1) ∨ (((n : Int) == 0) = false ∧ ¬ a < 0 ∧ ¬ tries < 1 ∧ 64 < tries) := by
    by_cases h0 : n = 0
    · exact .inl h0
    · have : ((n : Int) == 0) = false := by simp; omega
      by_cases h1 : a < 0
      · exact .inr (.inl ⟨this, h1⟩)
      · by_cases h2 : tries < 1
        · exact .inr (.inr (.inl ⟨this, h1, h2⟩))
        · exact .inr (.inr (.inr ⟨this, h1, h2, by omega⟩))
  clear h
  rcases hc with rfl | ⟨h0, h1⟩ | ⟨h0, h1, h2⟩ | ⟨h0, h1, h2, h3⟩
  all_goals
    go_enter Try.func41, Try.ntmps41
    go_wp2
    go_step3
    go_wp2
    rw [Exit.noGoto_ret]
    go_ret3
    exact ⟨rfl, rfl⟩

set_option maxRecDepth 100000 in
set_option maxHeartbeats 1000000 in
theorem bound_any (v : Value) (l : List Int) (a : Nat) (n : Nat) (t : Nat) (w : World) (h : Ints .u64 w v l) (hu : AllU l) (hn : (n : Int) ≤ 18446744073709551615) (hn0 : 0 < n) (ht : 1 ≤ t) (ht2 : t ≤ 64) (ha : (a : Int) ≤ 9223372036854775807) :
    Calls Try.prog 41 #[v, .int .i64 a, .int .u64 n, .int .i64 t] w fun e w' => e = .returned (.tuple #[.int .u64 (boundL l n t a).1, .int .i64 (boundL l n t a).2.1, .int .i64 (boundL l n t a).2.2]) ∧ Below w.heap.size w w' := by
  obtain ⟨ad, c, rfl⟩ := h.shape
  have H := Lib.hid h
  obtain ⟨_, _, _, _, _, h3, _⟩ := h
  have HU := Lib.hid hu; clear hu
  have n0 : ((n : Int) == 0) = false := by simp; omega
  have n1 : (n : Int) ≠ 0 := by omega
  have htop := fun W => top_any n W hn
  obtain ⟨T, hT⟩ : ∃ T, topN n = T := ⟨_, rfl⟩
  rw [hT] at htop
  have HTOP := Lib.hid htop
  have HT := Lib.hid hT
  clear htop hT
  have hmf : ∀ (fn : Fn) (first cap : Array Value) (w : World), (Instr.makeFunc fn first cap).run Try.prog w = .ok (.func fn first cap) w := fun _ _ _ _ => rfl
  obtain ⟨R, hR⟩ : ∃ R, boundL l n t a = R := ⟨_, rfl⟩
  rw [hR]
  have HR := Lib.hid hR; clear hR
  go_enter Try.func41, Try.ntmps41
  go_wp2
  go_step3
  go_wp2_with (go_at_call 69; refine (HTOP.out _).mono ?_; rintro e w1 ⟨rfl, d, rfl⟩)
  go_step3
  go_wp2
  go_loopw [37] (fun i wr => ∃ k : Nat, i = .int .i64 k ∧ k ≤ t ∧ boundL l n (t - k) (a + k) = R ∧ wr.cell? ⟨w.heap.size, 0, none⟩ = some (.slice ad l.length c) ∧ wr.cell? ⟨w.heap.size, 1, none⟩ = some (.int .i64 ((a + k : Nat) : Int)) ∧ wr.frozen? ⟨w.heap.size, 1, none⟩ = false ∧ w.heap.size < wr.heap.size ∧ Below w.heap.size w wr) (fun i _ => t - (intOf i).toNat)
  case atStart => exact ⟨0, rfl, by omega, HR.out, by simp, by simp, by simp, by simp, by (repeat (first | with_reducible exact Below.refl _ _ | ((with_reducible refine Below.setCell ?_ ?_ _); rotate_left; (focus (first | omega | (simp; done) | (simp; omega)))) | ((with_reducible refine Below.alloc ?_ ?_ _); rotate_left; (focus (first | omega | (simp; done) | (simp; omega)))) | (with_reducible refine Below.drew ?_) | (with_reducible refine below_drewN ?_ _)))⟩
  case round =>
    obtain ⟨k, rfl, hk, hr, c0, c1, f1, hsz, hb⟩ := hrel
    have HR := Lib.hid hr; clear hr
    by_cases hlt : k < t
    · by_cases hin : a + k < l.length
      · obtain ⟨x, hx⟩ := getElem?_ex hin
        have HSN := Lib.hid (snext_yes w.heap.size (.slice ad l.length c) l (a + k) x wr (H.out.below hb) hx c0 c1 f1)
        have HX := Lib.hid hx; clear hx
        have hxu := HU.out x (List.mem_of_getElem? HX.out)
        by_cases hxt : x ≤ (T : Int)
        · have hfin : R = (x % (n : Int), ((a + k : Nat) : Int) + 1, 0) := by
            rw [← HR.out, show t - k = (t - k - 1) + 1 by omega, boundL, HX.out]
            simp only [HT.out, if_pos hxt]
          have HF := Lib.hid hfin; clear hfin
          go_wp2_with (go_at_call 68; refine HSN.out.mono ?_; rintro e w1 ⟨rfl, d2, rfl⟩)
          go_quiet (fail)
          go_wp2
          rw [Exit.noGoto_ret]
          go_ret3
          rw [HF.out]
          exact ⟨rfl, below_drewN ((below_drewN hb d2).setCell (Nat.le_refl _) _) _⟩
        · have hnx : boundL l n (t - (k + 1)) (a + (k + 1)) = R := by
            rw [← HR.out, show t - k = (t - (k + 1)) + 1 by omega, boundL, HX.out]
            simp only [HT.out, if_neg hxt]; rfl
          have HNX := Lib.hid hnx; clear hnx
          go_wp2_with (go_at_call 68; refine HSN.out.mono ?_; rintro e w1 ⟨rfl, d2, rfl⟩)
          go_roundw
          case rel => exact ⟨k + 1, by go_num, by omega, HNX.out, by go_simp, by (go_simp; omega), by go_simp, by simp [World.setCell]; exact hsz, (below_drewN hb d2).setCell (Nat.le_refl _) _⟩
          case measure => simp [intOf] <;> omega
      · have HSN := Lib.hid (snext_no w.heap.size (.slice ad l.length c) l (a + k) wr (H.out.below hb) (by omega) c0 c1)
        have hfin : R = (0, 0, 60) := by
          rw [← HR.out, show t - k = (t - k - 1) + 1 by omega, boundL, List.getElem?_eq_none (by omega)]
        have HF := Lib.hid hfin; clear hfin
        go_wp2_with (go_at_call 68; refine HSN.out.mono ?_; rintro e w1 ⟨rfl, d2, rfl⟩)
        rw [Exit.noGoto_ret]
        go_ret3
        rw [HF.out]
        exact ⟨rfl, below_drewN hb d2⟩
    · obtain rfl : k = t := by omega
      have hfin : R = (0, 0, 61) := by
        rw [← HR.out, Nat.sub_self]; rfl
      have HF := Lib.hid hfin; clear hfin
      go_wp2
      rw [Exit.noGoto_ret]
      go_ret3
      rw [HF.out]
      exact ⟨rfl, hb⟩
end Go.Proofs.Ytoljilbldkbjpaa
