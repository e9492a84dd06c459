/-
  Walks of layer 21: a list put behind bytes.
-/
import Derived.Test.YtfbodloidogliaaBinG
namespace Go.Proofs.Ytfbodloidogliaa
open Go.RowKit

set_option maxRecDepth 100000 in
set_option maxHeartbeats 1000000 in
theorem putInts_any (vp : Value) (pre : List Int) (v : Value) (l : List Int) (w : World) (hp : Ints .u8 w vp pre) (h : Ints .i64 w v l) (h64 : ∀ x ∈ l, Ok64 x) (hl : l.length ≤ 10000) (hpr : pre.length ≤ 10000) :
    Calls Try.prog 62 #[vp, v] w fun e w' => ∃ v', e = .returned v' ∧ OwnB w' w.heap.size v' (pre ++ putsInts l) ∧ Below w.heap.size w w' := by
  have HU := Lib.hid (putU_any vp pre l.length w hp (by omega) (by omega))
  have HI := Lib.hid h
  have H64 := Lib.hid h64
  obtain ⟨a, c, rfl⟩ := h.shape
  clear h h64 hp
  go_enter Try.func62, Try.ntmps62
  go_wp2_with fail
  refine HU.out.mono ?_
  rintro e w1 ⟨v1, rfl, ho, hb⟩
  have HO := Lib.hid ho; have HB := Lib.hid hb
  clear ho hb
  go_wp2
  go_loopw [5, 15] (fun v i wr => ∃ (k : Nat) (done : List Int), k ≤ l.length ∧ i = .int .i64 k ∧ OwnB wr w.heap.size v done ∧ done ++ putsIs (l.drop k) = pre ++ putsInts l ∧ Below w.heap.size w wr) (fun _ i _ => l.length - (intOf i).toNat)
  case atStart => exact ⟨0, _, Nat.zero_le _, rfl, HO.out, by simp [putsInts], HB.out⟩
  case round =>
    obtain ⟨k, done, hk, rfl, ho, hd, hb⟩ := hrel
    have HO1 := Lib.hid ho; have HD := Lib.hid hd; have HB1 := Lib.hid hb
    clear ho hd hb
    have hdl : done.length ≤ 200000 := by
      have h1 := congrArg List.length HD.out
      have h2 := putsIs_len l
      have h3 := putsU_len (n := l.length)
      simp [putsInts] at h1
      omega
    by_cases hlt : k < l.length
    · obtain ⟨x, hx⟩ := getElem?_ex hlt
      have hc := (HI.out.below HB1.out)
      obtain ⟨b, o, rfl, hcell⟩ : ∃ b o, a = some ⟨b, o, none⟩ ∧ wr.cell? ⟨b, o + k, none⟩ = some (.int .i64 x) := by
        obtain ⟨_, _, e0, _, _, _, h4⟩ := hc
        obtain ⟨b, o, e1, _, hcell⟩ := h4 k x hx
        injection e0 with e0 _ _
        exact ⟨b, o, e0.trans e1, hcell⟩
      clear hc
      have hdrop : l.drop k = x :: l.drop (k + 1) := by
        rw [List.drop_eq_getElem_cons hlt]
        congr 1
        have := List.getElem?_eq_getElem hlt
        rw [this] at hx
        exact Option.some.inj hx
      have hx0 := putI_any (.slice none 0 0) [] x wr ⟨none, 0, rfl, by simp, by omega, by simp, fun i x h => by simp at h⟩ (by simp) (H64.out x (List.mem_of_getElem? hx))
      rw [List.nil_append] at hx0
      have HX := Lib.hid hx0
      clear hx0
      have HDR := Lib.hid hdrop
      clear hdrop hx
      have hpl := putsU_len (n := zig x)
      go_wp2_with fail
      refine HX.out.mono ?_
      rintro e w2 ⟨v2, rfl, ho2, hb2⟩
      have hI := (Ints.own ho2 (by have : (putsI x).length ≤ 9 := hpl; omega)).2
      have HI2 := Lib.hid hI; have HB2 := Lib.hid (HB1.out.trans (hb2.mono HB1.out.size)); have HO2 := Lib.hid (HO1.out.below hb2)
      have hpl2 : (putsI x).length ≤ 9 := hpl
      clear hI ho2 hb2 hpl
      go_wp2_with (at_builtin; go_must (refine appInts rfl _ _ 58 rfl Try.underlying58 eiU8 w.heap.size (by rfl) HO2.out (by rfl) HI2.out (by omega) HB2.out.size ?_))
      intro v3 w3 ho3 hb3 _
      have h3 : OwnB w3 w.heap.size v3 (done ++ putsI x) := by simpa [OwnB] using ho3
      have H3 := Lib.hid h3; have B3 := Lib.hid (HB2.out.trans hb3)
      clear ho3 h3 hb3
      go_wp2
      go_roundw
      case rel => exact ⟨k + 1, _, by omega, by go_num, H3.out, by rw [← HD.out, HDR.out, putsIs]; simp, B3.out⟩
      case measure => simp [intOf] <;> omega
    · go_wp2
      go_ret
      refine ⟨_, rfl, ?_, HB1.out⟩
      have hd := HD.out
      rw [List.drop_of_length_le (by omega)] at hd
      simp [putsIs] at hd
      rw [← hd]; exact HO1.out
end Go.Proofs.Ytfbodloidogliaa
