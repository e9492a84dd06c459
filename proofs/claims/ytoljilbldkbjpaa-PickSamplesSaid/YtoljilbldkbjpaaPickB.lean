/-
  Walks of pick.asked and pick.Play.
-/
import Derived.Test.YtoljilbldkbjpaaPickA
import Derived.Test.YtoljilbldkbjpaaDrawA
namespace Go.Proofs.Ytoljilbldkbjpaa
open Go.RowKit Go.Maps

set_option maxHeartbeats 1000000 in
theorem asked07_any (a t : Int) (w : World) :
    Calls Try.prog 40 #[.int .i64 a, .int .i64 t] w fun e w' => e = .returned (.bool (decide (0 ≤ a ∧ 1 ≤ t ∧ t ≤ 64))) ∧ w = w' := by
  by_cases h1 : 0 ≤ a
  · by_cases h2 : 1 ≤ t
    · by_cases h3 : t ≤ 64
      · go_enter Try.func40, Try.ntmps40
        go_wp2_with fail
        go_ret
        exact ⟨ret_bool (by simp; omega), rfl⟩
      · go_enter Try.func40, Try.ntmps40
        go_wp2_with fail
        go_ret
        exact ⟨ret_bool (by simp; omega), rfl⟩
    · go_enter Try.func40, Try.ntmps40
      go_wp2_with fail
      go_ret
      exact ⟨ret_bool (by simp; omega), rfl⟩
  · go_enter Try.func40, Try.ntmps40
    go_wp2_with fail
    go_ret
    exact ⟨ret_bool (by simp; omega), rfl⟩

def playBad (n : Int) (P : List Int) : Prop := n < 0 ∨ 256 < n ∨ n < P.length
instance (n : Int) (P : List Int) : Decidable (playBad n P) := by unfold playBad; infer_instance

def pickB (n : Int) (P : List Int) : Bool := (List.range P.length).all fun i => decide (0 ≤ P.getD i 0 ∧ P.getD i 0 < n - i)
def playB (n : Int) (P : List Int) : Bool := if playBad n P then false else pickB n P

theorem pickB_true {n : Nat} {P : List Int} : pickB n P = true ↔ PickOk n P P.length := by
  unfold pickB PickOk
  rw [List.all_eq_true]
  constructor
  · intro h i hi
    simpa using h i (List.mem_range.2 hi)
  · intro h i hi
    simpa using h i (List.mem_range.1 hi)

theorem pickB_no {n : Nat} {P : List Int} {i : Nat} {p : Int} (hp : P[i]? = some p) (h : ¬ (0 ≤ p ∧ p < (n : Int) - i)) : pickB n P = false := by
  cases hb : pickB n P with
  | false => rfl
  | true =>
    have := pickB_true.1 hb i (List.getElem?_eq_some_iff.1 hp).1
    rw [getD_of hp] at this
    exact absurd this h

theorem playB_true {n : Int} {P : List Int} (h : playB n P = true) : (0 ≤ n ∧ n ≤ 256 ∧ (P.length : Int) ≤ n) ∧ PickOk n.toNat P P.length := by
  unfold playB at h
  by_cases hb : playBad n P
  · rw [if_pos hb] at h; cases h
  · rw [if_neg hb] at h
    unfold playBad at hb
    refine ⟨by omega, ?_⟩
    have e : n = (n.toNat : Int) := by omega
    rw [e] at h
    exact pickB_true.1 h

set_option maxRecDepth 100000 in
set_option maxHeartbeats 4000000 in
theorem play_any (n : Int) (v : Value) (P : List Int) (w : World) (h : Ints .i64 w v P) :
    Calls Try.prog 18 #[.int .i64 n, v] w fun e w' => ∃ vo, e = .returned (.tuple #[vo, .bool (playB n P)]) ∧ Ints .i64 w' vo (if playB n P = true then playL P P.length else []) ∧ Below w.heap.size w w' := by
  have HX := Lib.hid h
  obtain ⟨ax, cx, rfl, _, hc2, hl3, hx⟩ := h
  have HC := Lib.hid hx
  have hr := @run_makeMap Try.prog
  have hlb : (P.length : Int) ≤ 9223372036854775807 := by omega
  by_cases hb : playBad n P
  · have hz : playB n P = false := by unfold playB; rw [if_pos hb]
    rw [hz]
    simp only [Bool.false_eq_true, if_false]
    unfold playBad at hb
    clear hx hz hr
    by_cases h1 : n < 0
    · go_enter Try.func18, Try.ntmps18
      go_wp2_with fail
      exact bodyPost_ret (v := .tuple #[.slice none 0 0, .bool false]) (by simp [results, Try.results18, go_sem]) rfl ⟨_, rfl, ints_nil _ _ _ _ (by omega), by (repeat (first | with_reducible exact Below.refl _ _ | ((with_reducible refine Below.setCell ?_ ?_ _); rotate_left; (focus (first | omega | (simp; done) | (simp; omega)))) | ((with_reducible refine Below.alloc ?_ ?_ _); rotate_left; (focus (first | omega | (simp; done) | (simp; omega)))) | (with_reducible refine Below.drew ?_) | (with_reducible refine below_drewN ?_ _)))⟩
    · by_cases h2 : 256 < n
      · go_enter Try.func18, Try.ntmps18
        go_wp2_with fail
        exact bodyPost_ret (v := .tuple #[.slice none 0 0, .bool false]) (by simp [results, Try.results18, go_sem]) rfl ⟨_, rfl, ints_nil _ _ _ _ (by omega), by (repeat (first | with_reducible exact Below.refl _ _ | ((with_reducible refine Below.setCell ?_ ?_ _); rotate_left; (focus (first | omega | (simp; done) | (simp; omega)))) | ((with_reducible refine Below.alloc ?_ ?_ _); rotate_left; (focus (first | omega | (simp; done) | (simp; omega)))) | (with_reducible refine Below.drew ?_) | (with_reducible refine below_drewN ?_ _)))⟩
      · have h3 : n < (P.length : Int) := by omega
        go_enter Try.func18, Try.ntmps18
        go_wp2_with fail
        exact bodyPost_ret (v := .tuple #[.slice none 0 0, .bool false]) (by simp [results, Try.results18, go_sem]) rfl ⟨_, rfl, ints_nil _ _ _ _ (by omega), by (repeat (first | with_reducible exact Below.refl _ _ | ((with_reducible refine Below.setCell ?_ ?_ _); rotate_left; (focus (first | omega | (simp; done) | (simp; omega)))) | ((with_reducible refine Below.alloc ?_ ?_ _); rotate_left; (focus (first | omega | (simp; done) | (simp; omega)))) | (with_reducible refine Below.drew ?_) | (with_reducible refine below_drewN ?_ _)))⟩
  · have hz : playB n P = pickB n P := by unfold playB; rw [if_neg hb]
    rw [hz]
    unfold playBad at hb
    obtain ⟨N, rfl⟩ : ∃ N : Nat, n = (N : Int) := ⟨n.toNat, by omega⟩
    have HNO := Lib.hid (fun i p (hp : P[i]? = some p) h => pickB_no (n := N) hp h)
    have HYE := Lib.hid (pickB_true (n := N) (P := P))
    obtain ⟨m, hm⟩ : ∃ m, P.length = m := ⟨_, rfl⟩
    rw [hm] at HX HYE hb hlb ⊢
    have HL := Lib.hid hm
    have n256 : (N : Int) ≤ 256 := by omega
    have hmn : (m : Int) ≤ N := by omega
    obtain ⟨R, hR⟩ : ∃ R, pickB N P = R := ⟨_, rfl⟩
    rw [hR] at HNO HYE ⊢
    obtain ⟨OUT, hOUT⟩ : ∃ OUT, (if R = true then playL P m else []) = OUT := ⟨_, rfl⟩
    rw [hOUT]
    have HOUT := Lib.hid hOUT
    clear hx hz hb hm hR hOUT
    go_enter Try.func18, Try.ntmps18
    go_wp2_with (at_make; go_must (refine mkown rfl _ _ 24 rfl Try.underlying24 eiInt (w.heap.size + 1) m (by rfl) (by rfl) (by rfl) (by omega) (by simp) ?_))
    intro w2 hown hb2 _
    have hmap := (MapR.made w).keep (hb2.block w.heap.size (by omega))
    have B2 := Lib.hid (show Below w.heap.size w w2 from below_tr ((Below.refl _ w).alloc (Nat.le_refl _) _) (hb2.mono (by omega)))
    have s2 := hmap.lt
    have HMAP := Lib.hid hmap
    have HOWN := Lib.hid hown
    clear hown hmap hr hb2
    go_wp2_with fail
    go_loopw [7, 8, 9, 28] (fun out _ _ i wr => ∃ k : Nat, i = .int .i64 k ∧ k ≤ m ∧ PickOk N P k ∧ wr.ownsRow (w.heap.size + 1) 3 1 out k ((playL P k).map (.int .i64)) ∧ MapR wr w.heap.size (2 * k) (stepF P k) ∧ Below w.heap.size w wr) (fun _ _ _ i _ => m - (intOf i).toNat)
    case atStart => exact ⟨0, rfl, by omega, fun i hi => by omega, HOWN.out, HMAP.out, B2.out⟩
    case round =>
      obtain ⟨k, rfl, hk, hok, hown, hmap, hbr⟩ := hrel
      have HOK := Lib.hid hok
      have HOWR := Lib.hid hown
      have HMAR := Lib.hid hmap
      have HBR := Lib.hid hbr
      have hsz := hmap.lt
      have i1 : (0 : Int) ≤ (k : Int) := by omega
      clear hok hown hmap hbr
      by_cases hlt : k < m
      · have i2 : (k : Int) < (m : Int) := by omega
        obtain ⟨p, hp⟩ := getElem?_ex (l := P) (k := k) (by rw [HL.out]; exact hlt)
        obtain ⟨b, o, rfl, hbw, c0⟩ := HC.out k p hp
        have e0 := (HBR.out.cell (p := ⟨b, o + k, none⟩) hbw).trans c0
        have HP := Lib.hid hp
        clear c0 hp
        by_cases h0 : p < 0
        · have HR := Lib.hid (HNO.out k p HP.out (by omega))
          go_wp2_with fail
          exact bodyPost_ret (v := .tuple #[.slice none 0 0, .bool false]) (by simp [results, Try.results18, go_sem]) rfl ⟨_, by rw [HR.out], by rw [← HOUT.out, HR.out]; exact ints_nil _ _ _ _ (by omega), HBR.out⟩
        · by_cases h1 : (N : Int) - k ≤ p
          · have HR := Lib.hid (HNO.out k p HP.out (by omega))
            go_wp2_with fail
            exact bodyPost_ret (v := .tuple #[.slice none 0 0, .bool false]) (by simp [results, Try.results18, go_sem]) rfl ⟨_, by rw [HR.out], by rw [← HOUT.out, HR.out]; exact ints_nil _ _ _ _ (by omega), HBR.out⟩
          · obtain ⟨q, rfl⟩ : ∃ q : Nat, p = (q : Int) := ⟨p.toNat, by omega⟩
            have h1' : (q : Int) < (N : Int) - k := by omega
            have HOK2 := Lib.hid (show PickOk N P (k + 1) from fun i hi => by
              rcases Nat.lt_or_ge i k with h | h
              · exact HOK.out i h
              · obtain rfl : i = k := by omega
                rw [getD_of HP.out]
                omega)
            have hperm := HOK.out.perm k (Nat.le_refl _)
            have HPA := Lib.hid (show pickAt P k = stepF P k (k + q) by unfold pickAt; rw [getD_of HP.out]; rfl)
            have HST := Lib.hid (show stepF P (k + 1) = swapF (stepF P k) k (k + q) by show swapF _ _ _ = _; rw [getD_of HP.out]; rfl)
            have hs := swap_any w.heap.size (2 * k) k (k + q) (stepF P k) wr HMAR.out (by omega) (by omega) (by omega) (by have := hperm.1 k (by omega); omega) (by have := hperm.1 (k + q) (by omega); omega)
            have hvb : (stepF P k (k + q) : Int) < N := by have := hperm.1 (k + q) (by omega); omega
            have hvb0 : (0 : Int) ≤ (stepF P k (k + q) : Int) := by omega
            rw [← HST.out, ← HPA.out, Int.natCast_add] at hs
            rw [← HPA.out] at hvb hvb0
            have HS := Lib.hid hs
            have HPL := Lib.hid (playL_succ P k)
            generalize pickAt P k = PA at *
            clear hs hperm
            go_wp2_with fail
            (with_reducible refine HS.out.mono ?_)
            rintro e w5 ⟨rfl, hmap5, hon5⟩
            have HM5 := Lib.hid hmap5
            have OWN5 := Lib.hid (own_keep HOWR.out fun g hg hgl => hon5.2 g (by omega) hgl)
            have B5 := Lib.hid (below_tr HBR.out (hon5.1.mono (Nat.le_refl _)))
            have s5 := hmap5.lt
            clear hmap5 hon5
            go_wp2_with (at_builtin; go_must (refine app1 rfl _ _ 24 rfl Try.underlying24 eiInt (w.heap.size + 1) (by rfl) OWN5.out (by rfl) rfl (by simp [Value.oneCell']) (by omega) (by omega) ?_))
            intro v6 w6 hown6 hb6 _
            have OWN6 := Lib.hid hown6
            have HM6 := Lib.hid (HM5.out.keep (w' := w6) ((hb6.block w.heap.size (by omega)).trans (by go_simp)))
            have B6 := Lib.hid (show Below w.heap.size w w6 from below_tr (by (repeat (first | with_reducible exact Below.refl _ _ | ((with_reducible refine Below.setCell ?_ ?_ _); rotate_left; (focus (first | omega | (simp; done) | (simp; omega)))) | ((with_reducible refine Below.alloc ?_ ?_ _); rotate_left; (focus (first | omega | (simp; done) | (simp; omega)))) | (with_reducible refine Below.drew ?_) | (with_reducible refine below_drewN ?_ _) | ((with_reducible refine Below.trans ?_ (Below.mono B5.out ?_)); rotate_left; (focus (first | omega | (simp; done) | (simp; omega))))))) (hb6.mono (by omega)))
            clear hown6 hb6
            go_wp2_with fail
            go_roundw
            case rel => exact ⟨k + 1, by go_num, by omega, HOK2.out, by rw [HPL.out, List.map_append]; exact OWN6.out, by rw [show 2 * (k + 1) = 2 * k + 2 by omega]; exact HM6.out, B6.out⟩
            case measure => simp [intOf] <;> omega
      · obtain rfl : k = m := by omega
        have HR := Lib.hid (show R = true from HYE.out.2 HOK.out)
        have HI := Lib.hid (Ints.own (l := playL P k) HOWR.out (by rw [playL_len]; omega)).2
        go_wp2_with fail
        exact bodyPost_ret (v := .tuple #[u7, .bool true]) (by simp [results, Try.results18, go_sem]) rfl ⟨_, by rw [HR.out], by rw [← HOUT.out, HR.out]; exact HI.out, HBR.out⟩
end Go.Proofs.Ytoljilbldkbjpaa
