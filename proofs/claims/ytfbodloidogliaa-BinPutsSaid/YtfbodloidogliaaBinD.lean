/-
  Walks of copseref21: the bytes of a number, by definition.
-/
import Derived.Test.YtfbodloidogliaaBinC
namespace Go.Proofs.Ytfbodloidogliaa
open Go.RowKit

theorem own1 (w : World) (base : Nat) (x : Int) (hb : base ≤ w.heap.size) : (w.alloc (.cells #[.int .u8 x] 5)).ownsRow base 5 1 (.slice (some ⟨w.heap.size, 0, none⟩) 1 1) 1 [.int .u8 x] :=
  ⟨rfl, .inr ⟨w.heap.size, 1, _, rfl, hb, heap_alloc_new w _, Nat.le_refl _, by unfold maxLen; omega, rfl, rfl⟩⟩

set_option maxRecDepth 100000 in
set_option maxHeartbeats 1000000 in
theorem rU_any (n : Nat) (w : World) (hn : (n : Int) ≤ 18446744073709551615) :
    Calls Try.prog 57 #[.int .u64 n] w fun e w' => ∃ v', e = .returned v' ∧ OwnB w' w.heap.size v' (putsU n) ∧ Below w.heap.size w w' := by
  by_cases hs : (n : Int) < 240
  · have hp : putsU n = [(n : Int)] := if_pos (by omega)
    have h8 : IntKind.u8.wrap (n : Int) = (n : Int) := by unfold IntKind.wrap; simp [IntKind.signed, IntKind.bits]; omega
    rw [hp]
    clear hp
    go_enter Try.func57, Try.ntmps57
    go_wp2
    go_ret
    exact ⟨_, rfl, own1 w _ _ (Nat.le_refl _), (Below.refl _ _).alloc (Nat.le_refl _) _⟩
  · have hp : putsU n = (239 + ((up n).length : Int)) :: up n := if_neg (by omega)
    have hk8 : (up n).length ≤ 8 := upF_length 8 n
    have HP := Lib.hid hp
    clear hp
    go_enter Try.func57, Try.ntmps57
    go_wp2
    go_loopw [0, 3] (fun a v wr => ∃ (m : Nat) (D : List Int), a = .int .u64 m ∧ m ≤ n ∧ Ints .u8 wr v D ∧ up m ++ D = up n ∧ Below w.heap.size w wr) (fun a _ _ => (intOf a).toNat)
    case atStart => exact ⟨n, [], rfl, Nat.le_refl _, ⟨none, 0, rfl, by simp, by omega, by simp, fun i x h => by simp at h⟩, by simp, Below.refl _ _⟩
    case round =>
      obtain ⟨m, D, rfl, hm, hi, hd, hb⟩ := hrel
      have hD8 : D.length ≤ 8 := by
        have := congrArg List.length hd
        simp at this
        omega
      have HI := Lib.hid hi; have HD := Lib.hid hd; have HB := Lib.hid hb
      clear hi hd hb
      by_cases h0 : 0 < m
      · have ho := own1 wr w.heap.size ((m : Int) % 256) HB.out.size
        have ha : Below w.heap.size w (wr.alloc (.cells #[.int .u8 ((m : Int) % 256)] 5)) := HB.out.alloc HB.out.size _
        have hi : Ints .u8 (wr.alloc (.cells #[.int .u8 ((m : Int) % 256)] 5)) _ D := HI.out.below ((Below.refl _ _).alloc (Nat.le_refl _) _)
        have HO := Lib.hid ho; have HA := Lib.hid ha; have HI' := Lib.hid hi
        clear ho ha hi
        go_wp2_with (at_builtin; go_must (refine appInts rfl _ _ 58 rfl Try.underlying58 eiU8 w.heap.size (by rfl) HO.out (by rfl) HI'.out (by omega) HA.out.size ?_))
        intro v2 w2 ho2 hb2 _
        have h2 : Ints .u8 w2 v2 (((m % 256 : Nat) : Int) :: D) := (Ints.own (base := w.heap.size) (e := 5) (n := 1 + D.length) (by simpa using ho2) (by simp; omega)).2
        have H2 := Lib.hid h2; have B2 := Lib.hid (HA.out.trans hb2)
        clear ho2 h2 hb2
        go_wp2
        go_roundw
        case rel => exact ⟨m / 256, _, by go_num, by omega, H2.out, by rw [← HD.out, up_pos h0 (by omega)]; simp, B2.out⟩
        case measure => simp [intOf] <;> omega
      · obtain rfl : m = 0 := by omega
        have hd : D = up n := by have := HD.out; simpa [up_zero] using this
        obtain ⟨ad, c, rfl⟩ := HI.out.shape
        have ho := own1 wr w.heap.size (239 + (D.length : Int)) HB.out.size
        have ha : Below w.heap.size w (wr.alloc (.cells #[.int .u8 (239 + (D.length : Int))] 5)) := HB.out.alloc HB.out.size _
        have hi : Ints .u8 (wr.alloc (.cells #[.int .u8 (239 + (D.length : Int))] 5)) _ D := HI.out.below ((Below.refl _ _).alloc (Nat.le_refl _) _)
        have HO := Lib.hid ho; have HA := Lib.hid ha; have HI' := Lib.hid hi; have HDD := Lib.hid hd
        clear ho ha hi hd
        go_wp2_with (at_builtin; go_must (refine appInts rfl _ _ 58 rfl Try.underlying58 eiU8 w.heap.size (by rfl) HO.out (by rfl) HI'.out (by omega) HA.out.size ?_))
        intro v2 w2 ho2 hb2 _
        have h2 : OwnB w2 w.heap.size v2 (putsU n) := by
          rw [HP.out, ← HDD.out]
          unfold OwnB
          rw [List.length_cons, Nat.add_comm]
          simpa using ho2
        have H2 := Lib.hid h2; have B2 := Lib.hid (HA.out.trans hb2)
        clear ho2 h2 hb2
        go_wp2
        go_ret
        exact ⟨_, rfl, H2.out, B2.out⟩
end Go.Proofs.Ytfbodloidogliaa
