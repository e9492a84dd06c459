/-
  Walks of layer 21 (bin): a number put behind bytes.
-/
import Derived.Test.YtfbodloidogliaaBinB
namespace Go.Proofs.Ytfbodloidogliaa
open Go.RowKit

/-- A row of the call's own that holds these bytes. -/
def OwnB (w : World) (base : Nat) (v : Value) (l : List Int) : Prop := w.ownsRow base 5 1 v l.length (l.map (Value.int .u8))

theorem putsU_len {n : Nat} : (putsU n).length ≤ 9 := by
  unfold putsU
  split
  · simp
  · have := upF_length 8 n; simp [up]; omega

set_option maxRecDepth 100000 in
set_option maxHeartbeats 1000000 in
theorem putU_any (v : Value) (l : List Int) (n : Nat) (w : World) (h : Ints .u8 w v l) (hl : l.length ≤ 999990) (hn : (n : Int) ≤ 18446744073709551615) :
    Calls Try.prog 56 #[v, .int .u64 n] w fun e w' => ∃ v', e = .returned v' ∧ OwnB w' w.heap.size v' (l ++ putsU n) ∧ Below w.heap.size w w' := by
  have HC := Lib.hid (clone8_any v l w h (by omega))
  have hlen := h.shape
  clear h
  by_cases hs : (n : Int) < 240
  · have hp : putsU n = [(n : Int)] := if_pos (by omega)
    have h8 : IntKind.u8.wrap (n : Int) = (n : Int) := by unfold IntKind.wrap; simp [IntKind.signed, IntKind.bits]; omega
    rw [hp]
    clear hp
    go_enter Try.func56, Try.ntmps56
    go_wp2_with fail
    refine HC.out.mono ?_
    rintro e w1 ⟨v1, rfl, ho, hb⟩
    have HO := Lib.hid ho; have HB := Lib.hid hb
    clear ho hb
    go_wp2_with (at_builtin; go_must (refine app1 rfl _ _ 58 rfl Try.underlying58 eiU8 w.heap.size (by rfl) HO.out (by rfl) rfl (by simp [Value.oneCell']) (by omega) HB.out.size ?_))
    intro v' w' hown hb' _
    have HO' := Lib.hid hown; have HB' := Lib.hid (HB.out.trans hb')
    clear hown hb'
    go_wp2
    go_ret
    exact ⟨_, rfl, by have := HO'.out; simpa [OwnB] using this, HB'.out⟩
  · obtain ⟨k, hk⟩ : ∃ k, (up n).length = k := ⟨_, rfl⟩
    have hk8 : k ≤ 8 := hk ▸ upF_length 8 n
    have hmany := many_up (n := n) (by omega) (by omega)
    rw [hk] at hmany
    have hp : putsU n = (239 + (k : Int)) :: up n := by rw [putsU, if_neg (by omega), hk]
    have hud : up n = down n k := by rw [← hk]; exact up_down n
    rw [hp, hud]
    clear hp hud hk
    have hl64 := fun W => Try.bits_Len64 (n : Int) W (by omega) (by omega)
    simp only [Int.toNat_natCast] at hl64
    obtain ⟨B, hB⟩ : ∃ B, Lib.bitLen n = B := ⟨_, rfl⟩
    rw [hB] at hmany hl64
    clear hB
    have HL := Lib.hid hl64
    have HM := Lib.hid hmany
    have hB64 : B ≤ 64 := by omega
    clear hl64 hmany
    have hq : ((B : Int) + 7) / 8 = (k : Int) := by have := HM.out; omega
    have HQ := Lib.hid hq
    go_enter Try.func56, Try.ntmps56
    go_wp2_with fail
    refine HC.out.mono ?_
    rintro e w1 ⟨v1, rfl, ho, hb⟩
    have HO := Lib.hid ho; have HB := Lib.hid hb
    clear ho hb
    go_wp2_with (first | (go_at_call 83; refine (HL.out _).mono ?_; rintro e w' ⟨rfl, rfl⟩) | (at_builtin; go_must (refine app1 rfl _ _ 58 rfl Try.underlying58 eiU8 w.heap.size (by rfl) HO.out (by rfl) rfl (by simp [Value.oneCell']) (by omega) HB.out.size ?_)))
    intro v2 w2 ho2 hb2 _
    have h2 : OwnB w2 w.heap.size v2 (l ++ [239 + (k : Int)]) := by simpa [OwnB] using ho2
    have H2 := Lib.hid h2; have B2 := Lib.hid (HB.out.trans hb2)
    clear ho2 h2 hb2
    have hq := HQ.out
    go_wp2
    go_loopw [5, 7] (fun v i wr => ∃ (j : Nat) (done : List Int), j ≤ k ∧ i = .int .i64 ((j : Int) - 1) ∧ OwnB wr w.heap.size v done ∧ done ++ down n j = l ++ (239 + (k : Int)) :: down n k ∧ Below w.heap.size w wr) (fun _ i _ => (intOf i + 1).toNat)
    case atStart => exact ⟨k, _, Nat.le_refl _, rfl, H2.out, by simp, B2.out⟩
    case round =>
      obtain ⟨j, done, hj, rfl, ho, hd, hb⟩ := hrel
      have HD := Lib.hid hd; have HO3 := Lib.hid ho; have HB3 := Lib.hid hb
      clear hd ho hb
      rcases j with _ | m
      · rw [show (((0 : Nat) : Int) - 1) = -1 by rfl]
        go_wp2
        go_ret
        exact ⟨_, rfl, by have := HD.out; rw [down, List.append_nil] at this; rw [← this]; exact HO3.out, HB3.out⟩
      · rw [show (((m + 1 : Nat) : Int) - 1) = (m : Int) by omega]
        have hlen2 : done.length ≤ 1000000 := by
          have := congrArg List.length HD.out
          simp [down_length] at this
          omega
        have hbyte : (n : Int) / 2 ^ (8 * m) % 256 = ((n / 256 ^ m % 256 : Nat) : Int) := by
          rw [show (256 : Nat) ^ m = 2 ^ (8 * m) by rw [Nat.pow_mul]]; push_cast; rfl
        have HBY := Lib.hid hbyte
        clear hbyte
        go_wp2_with (at_builtin; go_must (refine app1 rfl _ _ 58 rfl Try.underlying58 eiU8 w.heap.size (by rfl) HO3.out (by rfl) rfl (by simp [Value.oneCell']) (by omega) HB3.out.size ?_))
        intro v4 w4 ho4 hb4 _
        have h4 : OwnB w4 w.heap.size v4 (done ++ [((n / 256 ^ m % 256 : Nat) : Int)]) := by rw [← HBY.out]; simpa [OwnB] using ho4
        have H4 := Lib.hid h4; have B4 := Lib.hid (HB3.out.trans hb4)
        clear ho4 h4 hb4
        go_wp2
        go_roundw
        case rel => exact ⟨m, _, by omega, by go_num, H4.out, by rw [← HD.out, down]; simp, B4.out⟩
        case measure => simp [intOf] <;> omega
end Go.Proofs.Ytfbodloidogliaa
