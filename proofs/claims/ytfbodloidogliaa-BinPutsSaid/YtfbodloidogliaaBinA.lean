/-
  Walks of layer 21 (bin): copies of bytes; equal lists of bytes.
-/
import Derived.Test.YtfbodloidogliaaKit
import Derived.Test.YtfbodloidogliaaShelf
import Derived.Lib.SliceRun
import Derived.Laws.BytesArg
namespace Go.Proofs.Ytfbodloidogliaa
open Go.RowKit

theorem eiU8 : EI Try.prog 5 (.int .u8 0) 1 1 := .of (by kernel_rfl) rfl (by decide) (by decide)

set_option maxRecDepth 100000 in
set_option maxHeartbeats 1000000 in
theorem clone8_any (v : Value) (l : List Int) (w : World) (h : Ints .u8 w v l) (hl : l.length ≤ 1000000) :
    Calls Try.prog 91 #[v] w fun e w' => ∃ v', e = .returned v' ∧ w'.ownsRow w.heap.size 5 1 v' l.length (l.map (Value.int .u8)) ∧ Below w.heap.size w w' := by
  have q : ∀ (w : World) (a : Option Addr) (n c n' c' : Nat), (binOp .eql 58 (.slice a n c) (.slice none n' c')).run Try.prog w = .ok (.bool a.isNone) w := fun w a n c n' c' => Lib.run_eql_slice_nil w _ _ a n c n' c' Try.underlying58
  have HL := Lib.hid h
  obtain ⟨a, c, rfl, h1, h2, h3, h4⟩ := h
  rcases a with _ | ad
  · have hl0 : l = [] := by
      cases l with
      | nil => rfl
      | cons x l => obtain ⟨b, o, e, _⟩ := h4 0 x rfl; cases e
    subst hl0
    clear h4 HL
    go_enter Try.func91, Try.ntmps91
    go_wp2
    go_ret
    exact ⟨_, rfl, ⟨rfl, .inl ⟨rfl, rfl⟩⟩, Below.refl _ _⟩
  · clear h4
    go_enter Try.func91, Try.ntmps91
    have ho : (w.alloc (.cells #[] 5)).ownsRow w.heap.size 5 1 (.slice (some ⟨w.heap.size, 0, none⟩) 0 0) 0 [] := World.ownsRow_made w #[] 0 (Nat.le_refl _) (Nat.zero_le _) (by simp)
    have hb : Below w.heap.size w (w.alloc (.cells #[] 5)) := (Below.refl _ _).alloc (Nat.le_refl _) _
    have HO := Lib.hid ho; have HB := Lib.hid hb
    clear ho hb
    go_wp2_with (at_builtin; go_must (refine appInts rfl _ _ 58 rfl Try.underlying58 eiU8 w.heap.size (by rfl) HO.out (by rfl) (HL.out.below HB.out) (by omega) (by simp) ?_))
    intro v' w' hown b' _
    have HO' := Lib.hid hown
    have HB' := Lib.hid (HB.out.trans b')
    clear hown b'
    go_wp2
    go_ret
    exact ⟨_, rfl, by simpa using HO'.out, HB'.out⟩


set_option maxRecDepth 100000 in
theorem Ints.string {w : World} {a : Option Addr} {n c : Nat} {l : List Int} (h : Ints .u8 w (.slice a n c) l) :
    (convert 58 9 (.slice a n c)).run Try.prog w = .ok (.string (strOfNums l)) w := by
  obtain ⟨a', c', e, _, _, _, h4⟩ := h
  injection e with e1 e2 e3
  subst e1 e2 e3
  rcases Nat.eq_zero_or_pos l.length with h0 | h0
  · obtain rfl := List.eq_nil_of_length_eq_zero h0
    rw [run_convert_bytes_string w _ _ _ _ _ _ Try.underlying58 Try.underlying5 Try.underlying9]
    cases a <;> simp [Conv.bytesToString, loadCells]
    all_goals rfl
  · obtain ⟨x, hx⟩ := getElem?_ex h0
    obtain ⟨b, o, rfl, _, _⟩ := h4 0 x hx
    refine run_convert_bytes_arg w _ _ Try.underlying58 Try.underlying5 b o l.length _ l rfl (fun i hi => ?_) _ Try.underlying9
    obtain ⟨y, hy⟩ := getElem?_ex hi
    obtain ⟨b', o', e, _, hc⟩ := h4 i y hy
    cases e
    rw [hc]
    simp [List.getD, hy]

set_option maxRecDepth 100000 in
theorem same21_eq (va vb : Value) (l : List Int) (w : World) (ha : Ints .u8 w va l) (hb : Ints .u8 w vb l) :
    Calls Try.prog 55 #[va, vb] w fun e w' => e = .returned (.bool true) ∧ w = w' := by
  obtain ⟨a, c, rfl⟩ := ha.shape
  obtain ⟨b, d, rfl⟩ := hb.shape
  have h1 := ha.string
  have h2 := hb.string
  clear ha hb
  go_enter Try.func55, Try.ntmps55
  go_wp2
  go_ret
  simp

end Go.Proofs.Ytfbodloidogliaa
