/-
  Walks: whether a part of a plane is not 0; a slice of integers in new memory.
-/
import Derived.Test.YtoljilbldkbjpaaPickJ
import Derived.Test.YtoljilbldkbjpaaShelf
namespace Go.Proofs.Ytoljilbldkbjpaa
open Go.RowKit

set_option maxHeartbeats 400000 in
theorem nz_any (x : Int) (w : World) : Calls Try.prog 49 #[.int .i64 x] w fun e w' => e = .returned (.bool (x != 0)) ∧ w = w' := by
  by_cases h : x = 0
  · subst h
    go_enter Try.func49, Try.ntmps49
    go_wp2_with fail
    go_ret
    exact ⟨rfl, rfl⟩
  · have h1 : (x != 0) = true := by simp [h]
    rw [h1]
    go_enter Try.func49, Try.ntmps49
    go_wp2_with fail
    go_ret
    exact ⟨rfl, rfl⟩

set_option maxRecDepth 100000 in
set_option maxHeartbeats 1000000 in
theorem indexf_any (v : Value) (l : List Int) (w : World) (h : Ints .i64 w v l) :
    Calls Try.prog 73 #[v, .func (.func 49) #[] #[]] w fun e w' => ∃ z : Int, e = .returned (.int .i64 z) ∧ decide (0 ≤ z) = l.any (fun x => x != 0) ∧ w = w' := by
  obtain ⟨ax, cx, rfl, _, hc2, hl3, hx⟩ := h
  have HC := Lib.hid hx
  obtain ⟨n, hn⟩ : ∃ n, l.length = n := ⟨_, rfl⟩
  have HN := Lib.hid hn
  rw [hn] at hl3 ⊢
  have hlb : (n : Int) ≤ 9223372036854775807 := by omega
  obtain ⟨R, hR⟩ : ∃ R, (l.any fun x => x != 0) = R := ⟨_, rfl⟩
  rw [hR]
  have HR := Lib.hid hR
  clear hx hn hR
  go_enter Try.func73, Try.ntmps73
  go_wp2_with fail
  go_loopw [5, 8] (fun _ i wr => ∃ k : Nat, i = .int .i64 k ∧ k ≤ n ∧ (∀ j x, j < k → l[j]? = some x → x = 0) ∧ wr = w) (fun _ i _ => n - (intOf i).toNat)
  case atStart => exact ⟨0, rfl, by omega, fun j x h => by omega, rfl⟩
  case round =>
    obtain ⟨k, rfl, hk, hz, rfl⟩ := hrel
    have HZ := Lib.hid hz
    have i1 : (0 : Int) ≤ (k : Int) := by omega
    clear hz
    by_cases hlt : k < n
    · have i2 : (k : Int) < (n : Int) := by omega
      obtain ⟨x, hx⟩ := getElem?_ex (l := l) (k := k) (by rw [HN.out]; exact hlt)
      obtain ⟨b, o, rfl, hbw, c0⟩ := HC.out k x hx
      have HX := Lib.hid hx
      clear hx
      by_cases h0 : x = 0
      · subst h0
        go_wp2_with fail
        refine (nz_any _ _).mono ?_
        rintro e w1 ⟨rfl, rfl⟩
        go_wp2_with fail
        go_roundw
        case rel =>
          refine ⟨k + 1, by go_num, by omega, fun j x hj hx => ?_, trivial⟩
          rcases Nat.lt_or_ge j k with h | h
          · exact HZ.out j x h hx
          · obtain rfl : j = k := by omega
            rw [HX.out] at hx
            injection hx with hx
            exact hx.symm
        case measure => simp [intOf] <;> omega
      · have h1 : (x != 0) = true := by simp [h0]
        have HT := Lib.hid (show R = true by rw [← HR.out, List.any_eq_true]; exact ⟨x, List.mem_of_getElem? HX.out, h1⟩)
        go_wp2_with fail
        refine (nz_any _ _).mono ?_
        rintro e w1 ⟨rfl, rfl⟩
        rw [h1]
        go_wp2_with fail
        go_ret
        exact ⟨_, rfl, by rw [HT.out]; simp, rfl⟩
    · obtain rfl : k = n := by omega
      have HT := Lib.hid (show R = false by
        rw [← HR.out, List.any_eq_false]
        intro x hx
        obtain ⟨i, hi⟩ := List.getElem?_of_mem hx
        have := HZ.out i x (by have := (List.getElem?_eq_some_iff.1 hi).1; have := HN.out; omega) hi
        simp [this])
      go_wp2_with fail
      go_ret
      exact ⟨_, rfl, by rw [HT.out]; rfl, rfl⟩

set_option maxRecDepth 100000 in
set_option maxHeartbeats 1000000 in
theorem contains_any (v : Value) (l : List Int) (w : World) (h : Ints .i64 w v l) :
    Calls Try.prog 48 #[v, .func (.func 49) #[] #[]] w fun e w' => e = .returned (.bool (l.any fun x => x != 0)) ∧ w = w' := by
  have HI := Lib.hid (indexf_any v l w h)
  obtain ⟨ax, cx, rfl, _⟩ := h
  obtain ⟨R, hR⟩ : ∃ R, (l.any fun x => x != 0) = R := ⟨_, rfl⟩
  rw [hR] at HI ⊢
  generalize l.length = n at *
  clear hR
  go_enter Try.func48, Try.ntmps48
  go_wp2_with fail
  refine HI.out.mono ?_
  rintro e w1 ⟨z, rfl, hz, rfl⟩
  have HZ := Lib.hid hz
  clear hz
  go_wp2_with fail
  go_ret
  exact ⟨by rw [← HZ.out]; rfl, rfl⟩

theorem cloneI_any (b o n c : Nat) (l : List Int) (w : World) (h : Ints .i64 w (.slice (some ⟨b, o, none⟩) n c) l) (hl : l.length ≤ 1000000) :
    Calls Try.prog 50 #[.slice (some ⟨b, o, none⟩) n c] w fun e w' => ∃ v', e = .returned v' ∧ Ints .i64 w' v' l ∧ Fresh w.heap.size v' ∧ Below w.heap.size w w' := by
  obtain ⟨a, c', e, h1, h2, h3, h4⟩ := h
  injection e with e1 e2 e3
  subst e1 e2 e3
  obtain ⟨i, hi, hz, hsize, hby, hzs, hsz, hbp⟩ := eiInt
  have hcl := Try.slices_Clone i _ 1 8 hi hz hsize hby hzs (by decide) (fun w => Try.sizeOf3 w) b o l.length c (l.map (.int .i64)) w (by simp) (by unfold maxLen; omega) (by omega) (fun j u hj => by
    rw [List.getElem?_map] at hj
    cases hy : l[j]? with
    | none => rw [hy] at hj; cases hj
    | some y =>
      rw [hy] at hj
      obtain ⟨b', o', e', _, hc⟩ := h4 j y hy
      simp at e' hj
      obtain ⟨rfl, rfl⟩ := e'
      rw [← hj]; exact hc) (fun u hu => by simp at hu; obtain ⟨y, _, rfl⟩ := hu; rfl)
  exact hcl.mono fun e w' ⟨v', h1, h2, _, h4⟩ => ⟨v', h1, (Ints.own h2 (by omega)).2, Fresh.own h2, h4⟩
end Go.Proofs.Ytoljilbldkbjpaa
