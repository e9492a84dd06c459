/-
  Walks of package vec (Is, Parts, Dot) and of copseref08: vectors and the parts of planes.
-/
import Derived.Test.YtopodhcgfmpphaaTreeP
import Derived.Deep.DeepCutAuto
import Derived.Deep.CutBlock
namespace Go.Proofs.Ytopodhcgfmpphaa
open Go.RowKit

def isV (x : Int) : Bool := decide (-2147483648 ≤ x) && decide (x ≤ 2147483647)
def isC (x : Int) : Bool := decide (-4 ≤ x) && decide (x ≤ 4)

theorem all_step {p : Int → Bool} {l : List Int} {k : Nat} {x : Int} (hx : l[k]? = some x) : (l.take (k + 1)).all p = ((l.take k).all p && p x) := by
  rw [take_snoc' hx, List.all_append]; simp
theorem any_step {p : Int → Bool} {l : List Int} {k : Nat} {x : Int} (hx : l[k]? = some x) : (l.take (k + 1)).any p = ((l.take k).any p || p x) := by
  rw [take_snoc' hx, List.any_append]; simp

def preB (l : List Int) (dim : Int) : Bool := decide (1 ≤ dim) && decide (dim ≤ 8) && decide ((l.length : Int) = dim)

theorem vecB_is (l : List Int) (dim : Int) : vecB l dim = (preB l dim && l.all isV) := rfl
theorem partsB_is (l : List Int) (dim : Int) : partsB l dim = (preB l dim && l.all isC && l.any fun x => decide (x ≠ 0)) := rfl

theorem all_false_of_take {p : Int → Bool} {l : List Int} {k : Nat} (h : (l.take k).all p = false) : l.all p = false := by
  rw [← List.take_append_drop k l, List.all_append, h, Bool.false_and]

set_option maxHeartbeats 1000000 in
theorem vis_any (v : Value) (l : List Int) (dim : Int) (w : World) (h : Ints .i64 w v l) :
    Calls Try.prog 104 #[v, .int .i64 dim] w fun e w' => e = .returned (.bool (vecB l dim)) ∧ w = w' := by
  obtain ⟨a, c, rfl, _, _, h3, h⟩ := h
  have H := Lib.hid h; clear h
  rw [vecB_is]
  obtain ⟨B, hB⟩ : ∃ B, preB l dim = B := ⟨_, rfl⟩
  rw [hB]
  have HB := Lib.hid hB
  clear hB
  go_enter Try.func104, Try.ntmps104
  go_upto_region 1 with fail
  go_cut [5] (fun ok wx => ok = .bool B ∧ w = wx)
  case first =>
    by_cases h1 : 1 ≤ dim
    · by_cases h2 : dim ≤ 8
      · by_cases h4 : (l.length : Int) = dim
        · have hb : preB l dim = true := by unfold preB; simp [h1, h2, h4]
          have Q := Lib.hid hb
          clear hb
          go_wp2_with fail
          go_meet
          case rel => exact ⟨by rw [← HB.out, Q.out], rfl⟩
        · have hb : preB l dim = false := by unfold preB; simp [h4]
          have Q := Lib.hid hb
          clear hb
          have h5 : ((l.length : Int) == dim) = false := by simp [h4]
          go_wp2_with fail
          go_meet
          case rel => exact ⟨by rw [← HB.out, Q.out], rfl⟩
      · have hb : preB l dim = false := by unfold preB; simp [h2]
        have Q := Lib.hid hb
        clear hb
        go_wp2_with fail
        go_meet
        case rel => exact ⟨by rw [← HB.out, Q.out], rfl⟩
    · have hb : preB l dim = false := by unfold preB; simp [h1]
      have Q := Lib.hid hb
      clear hb
      go_wp2_with fail
      go_meet
      case rel => exact ⟨by rw [← HB.out, Q.out], rfl⟩
  case rest =>
    obtain ⟨rfl, rfl⟩ := hcut
    go_wp2_with fail
    go_loopw [5, 6] (fun ok i wr => ∃ k : Nat, i = .int .i64 k ∧ k ≤ l.length ∧ ok = .bool (B && (l.take k).all isV) ∧ w = wr) (fun _ i _ => l.length + 1 - (intOf i).toNat)
    case atStart => exact ⟨0, rfl, by omega, by simp, rfl⟩
    case round =>
      obtain ⟨k, rfl, hk, rfl, rfl⟩ := hrel
      cases hA : (B && (l.take k).all isV) with
      | false =>
        have HA := Lib.hid hA
        clear hA
        go_wp2_with fail
        go_ret
        refine ⟨ret_bool ?_, rfl⟩
        have hA := HA.out
        rw [Bool.and_eq_false_iff] at hA
        rcases hA with hA | hA
        · rw [hA]; rfl
        · rw [all_false_of_take hA, Bool.and_false]
      | true =>
        have HA := Lib.hid hA
        clear hA
        by_cases hlt : k < l.length
        · obtain ⟨x, hx⟩ := getElem?_ex hlt
          obtain ⟨b1, o1, rfl, hb1, hc1⟩ := H.out k x hx
          have hs := all_step (p := isV) hx
          have HS := Lib.hid hs
          have i1 : (0 : Int) ≤ (k : Int) := by omega
          have i2 : (k : Int) < (l.length : Int) := by omega
          have i3 : (k : Int) ≤ 140737488351232 := by omega
          clear hx hs
          by_cases g1 : -2147483648 ≤ x
          · by_cases g2 : x ≤ 2147483647
            · go_wp2_with fail
              go_roundw
              case rel => exact ⟨k + 1, by go_num, by omega, by rw [HS.out, ← Bool.and_assoc, HA.out, isV]; simp [g1, g2], trivial⟩
              case measure => simp [intOf] <;> omega
            · go_wp2_with fail
              go_roundw
              case rel => exact ⟨k + 1, by go_num, by omega, by rw [HS.out, ← Bool.and_assoc, HA.out, isV]; simp [g1, g2], trivial⟩
              case measure => simp [intOf] <;> omega
          · go_wp2_with fail
            go_roundw
            case rel => exact ⟨k + 1, by go_num, by omega, by rw [HS.out, ← Bool.and_assoc, HA.out, isV]; simp [g1], trivial⟩
            case measure => simp [intOf] <;> omega
        · obtain rfl : k = l.length := by omega
          go_wp2_with fail
          go_ret
          refine ⟨ret_bool ?_, rfl⟩
          have hA := HA.out
          rw [List.take_length] at hA
          exact hA.symm
end Go.Proofs.Ytopodhcgfmpphaa
