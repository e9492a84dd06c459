/-
  Walk of wide.Parse.
-/
import Derived.Test.YticpmcghdoiceaaWideF
import Derived.Laws.IdiomStrings
namespace Go.Proofs.Yticpmcghdoiceaa
open Go.RowKit

set_option maxRecDepth 100000 in
set_option maxHeartbeats 2000000 in
theorem wParse_empty (w : World) :
    Calls Try.prog 24 #[.string ⟨#[]⟩] w fun e w' => e = .returned (.tuple #[WV 0, .int .i64 20]) ∧ Below w.heap.size w w' := by
  go_enter Try.func24, Try.ntmps24
  go_wp2_with fail
  refine bodyPost_ret (v := .tuple #[.agg #[.int .u64 0, .int .u64 0], .int .i64 20]) (by simp [results, Try.results24, go_sem]) rfl ⟨rfl, ?_⟩
  (repeat (first | with_reducible exact Below.refl _ _ | ((with_reducible refine Below.setCell ?_ ?_ _); rotate_left; (focus (first | omega | (simp; done) | (simp; omega)))) | ((with_reducible refine Below.alloc ?_ ?_ _); rotate_left; (focus (first | omega | (simp; done) | (simp; omega)))) | (with_reducible refine Below.drew ?_) | (with_reducible refine below_drewN ?_ _)))


set_option maxRecDepth 100000 in
set_option maxHeartbeats 2000000 in
/-- An empty text, or one with a leading zero. -/
theorem wParse_zero (s : ByteArray) (w : World) (hne : s.toList ≠ []) (h1 : 1 < s.size) (h2 : ∀ h : 0 < s.size, (s[0]'h).toNat = 48) :
    Calls Try.prog 24 #[.string s] w fun e w' => e = .returned (.tuple #[WV 0, .int .i64 20]) ∧ Below w.heap.size w w' := by
  have H1 := Lib.hid h1
  have H2 := Lib.hid h2
  have HNE := Lib.hid hne
  clear hne h2
  clear h1
  go_enter Try.func24, Try.ntmps24
  go_wp2_with fail
  all_goals first
    | (refine bodyPost_ret (v := .tuple #[.agg #[.int .u64 0, .int .u64 0], .int .i64 20]) (by simp [results, Try.results24, go_sem]) rfl ⟨rfl, ?_⟩; (repeat (first | with_reducible exact Below.refl _ _ | ((with_reducible refine Below.setCell ?_ ?_ _); rotate_left; (focus (first | omega | (simp; done) | (simp; omega)))) | ((with_reducible refine Below.alloc ?_ ?_ _); rotate_left; (focus (first | omega | (simp; done) | (simp; omega)))) | (with_reducible refine Below.drew ?_) | (with_reducible refine below_drewN ?_ _))))
    | (exfalso; have := H1.out; have := HNE.out; have := H2.out; simp_all; done)
    | (exfalso; have := H1.out; omega)

/-- '[]byte(s)' of a string: a new row that reads as its bytes. -/
theorem convStr {s : ByteArray} {l : List Int} (hs : s.data.toList.map (fun b => (b.toNat : Int)) = l) (hl : l.length ≤ 1048576) (w : World) :
    ∃ c w', (convert 9 90 (.string s)).run Try.prog w = .ok (.slice (some ⟨w.heap.size, 0, none⟩) l.length c) w' ∧ Ints .u8 w' (.slice (some ⟨w.heap.size, 0, none⟩) l.length c) l ∧ Below w.heap.size w w' := by
  have hsz : s.size = l.length := by rw [← hs, List.length_map, Array.length_toList]; rfl
  refine ⟨_, _, (run_bytes_of_string w 9 90 5 s Try.underlying9 Try.underlying90 Try.underlying5).trans (by rw [hsz]), ?_, ((Below.refl _ w).drew).alloc (by simp) _⟩
  refine ⟨_, _, rfl, ?_, ?_, by omega, fun i x hi => ⟨w.heap.size, 0, rfl, by simp, ?_⟩⟩
  · exact grownCap_ge _ _ _ _
  · have := grownCap_le_maxLen w l.length 0 5 (by unfold maxLen; omega)
    unfold maxLen at this
    omega
  · have hb := heap_alloc_new w.drew (.cells (bytesRow s (grownCap w l.length 0 5)) 5 ((bytesRow s (grownCap w l.length 0 5)).size, (bytesRow s (grownCap w l.length 0 5)).size + 1))
    have hb2 := Lib.cell_of_heap hb (0 + i)
    refine hb2.trans ?_
    have hil : i < s.data.size := by
      have := (List.getElem?_eq_some_iff.1 hi).1
      have h2 : s.data.size = s.size := rfl
      omega
    rw [Nat.zero_add, bytesRow, Array.getElem?_append_left (by rw [Array.size_map]; exact hil), Array.getElem?_map]
    rw [← hs, List.getElem?_map, Array.getElem?_toList] at hi
    obtain ⟨b, e1, e2⟩ := Option.map_eq_some_iff.1 hi
    rw [e1, ← e2]; rfl
end Go.Proofs.Yticpmcghdoiceaa
