/-
  Walks of layer 21: texts.
-/
import Derived.Test.YtfbodloidogliaaBinE
namespace Go.Proofs.Ytfbodloidogliaa
open Go.RowKit

def putsText (s : List Int) : List Int := putsU s.length ++ s

set_option maxRecDepth 100000 in
set_option maxHeartbeats 1000000 in
theorem rText_any (v : Value) (s : List Int) (w : World) (h : Ints .u8 w v s) (hs : s.length ≤ 999990) :
    Calls Try.prog 61 #[v] w fun e w' => ∃ v', e = .returned v' ∧ OwnB w' w.heap.size v' (putsText s) ∧ Below w.heap.size w w' := by
  have HU := Lib.hid (rU_any s.length w (by omega))
  have HI := Lib.hid h
  have hpl := putsU_len (n := s.length)
  obtain ⟨a, c, rfl⟩ := h.shape
  clear h
  go_enter Try.func61, Try.ntmps61
  go_wp2_with fail
  refine HU.out.mono ?_
  rintro e w1 ⟨v1, rfl, ho, hb⟩
  have HO := Lib.hid ho; have HB := Lib.hid hb
  clear ho hb
  go_wp2_with (at_builtin; go_must (refine appInts rfl _ _ 58 rfl Try.underlying58 eiU8 w.heap.size (by rfl) HO.out (by rfl) (HI.out.below HB.out) (by omega) HB.out.size ?_))
  intro v2 w2 ho2 hb2 _
  have h2 : OwnB w2 w.heap.size v2 (putsText s) := by simpa [OwnB, putsText] using ho2
  have H2 := Lib.hid h2; have B2 := Lib.hid (HB.out.trans hb2)
  clear ho2 h2 hb2
  go_wp2
  go_ret
  exact ⟨_, rfl, H2.out, B2.out⟩

set_option maxRecDepth 100000 in
set_option maxHeartbeats 1000000 in
theorem putText_any (v : Value) (l : List Int) (v2 : Value) (s : List Int) (w : World) (hv : Ints .u8 w v l) (h : Ints .u8 w v2 s) (hl : l.length ≤ 99990) (hs : s.length ≤ 99990) :
    Calls Try.prog 60 #[v, v2] w fun e w' => ∃ v', e = .returned v' ∧ OwnB w' w.heap.size v' (l ++ putsText s) ∧ Below w.heap.size w w' := by
  have HU := Lib.hid (putU_any v l s.length w hv (by omega) (by omega))
  have HI := Lib.hid h
  have hpl := putsU_len (n := s.length)
  obtain ⟨a, c, rfl⟩ := h.shape
  clear h hv
  go_enter Try.func60, Try.ntmps60
  go_wp2_with fail
  refine HU.out.mono ?_
  rintro e w1 ⟨v1, rfl, ho, hb⟩
  have HO := Lib.hid ho; have HB := Lib.hid hb
  have hlen : (l ++ putsU s.length).length ≤ 200000 := by rw [List.length_append]; omega
  clear ho hb
  go_wp2_with (at_builtin; go_must (refine appInts rfl _ _ 58 rfl Try.underlying58 eiU8 w.heap.size (by rfl) HO.out (by rfl) (HI.out.below HB.out) (by omega) HB.out.size ?_))
  intro v3 w2 ho2 hb2 _
  have h2 : OwnB w2 w.heap.size v3 (l ++ putsText s) := by simpa [OwnB, putsText, Nat.add_assoc] using ho2
  have H2 := Lib.hid h2; have B2 := Lib.hid (HB.out.trans hb2)
  clear ho2 h2 hb2
  go_wp2
  go_ret
  exact ⟨_, rfl, H2.out, B2.out⟩
end Go.Proofs.Ytfbodloidogliaa
