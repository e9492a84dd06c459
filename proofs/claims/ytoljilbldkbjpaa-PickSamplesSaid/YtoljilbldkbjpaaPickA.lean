/-
  Walks of layer 7: what stands at a place, two places changed.
-/
import Derived.Test.YtoljilbldkbjpaaPickM
namespace Go.Proofs.Ytoljilbldkbjpaa
open Go.RowKit Go.Maps

/-- w' is w but for one block, and what is new. -/
def OnlyB (b : Nat) (w w' : World) : Prop := Below b w w' ∧ ∀ q, q ≠ b → q < w.heap.size → w'.heap[q]? = w.heap[q]?

theorem OnlyB.trans {b : Nat} {w1 w2 w3 : World} (h : OnlyB b w1 w2) (k : OnlyB b w2 w3) : OnlyB b w1 w3 :=
  ⟨below_tr h.1 k.1, fun q hq hlt => (k.2 q hq (Nat.lt_of_lt_of_le hlt h.1.size)).trans (h.2 q hq hlt)⟩
theorem OnlyB.grown {b : Nat} {w w' : World} (h : w.grownBy w' (some b)) (hb : b ≤ w.heap.size) : OnlyB b w w' :=
  ⟨(Below.refl b w).grown h hb (fun j e => by cases e; exact Nat.le_refl _), fun q hq hlt => h.block q hlt (fun e => hq (by injection e))⟩

set_option maxRecDepth 100000 in
set_option maxHeartbeats 1000000 in
theorem at_any (b m i : Nat) (f : Nat → Nat) (w : World) (h : MapR w b m f) (hi : i < 9223372036854775808) :
    Calls Try.prog 46 #[.map (some b), .int .i64 (i : Int)] w fun e w' => e = .returned (.int .i64 (f i : Int)) ∧ w = w' := by
  obtain ⟨D, hown, hg⟩ := h
  have hkey : keyOf Try.prog 3 (.int .i64 (i : Int)) = some (.int .i64 (i : Int)) := keyOf_int_mk Try.underlying3 (wf_nat hi)
  obtain ⟨g1, g2⟩ := hg i
  cases hB : Maps.has D (.int .i64 (i : Int)) with
  | true =>
    have e1 := g1 hB
    clear g1 g2
    go_enter Try.func46, Try.ntmps46
    go_wp2_with (at_lookup; refine wpList_lookup_own_ok_int _ rfl _ _ 65 rfl 3 3 .i64 lawI Try.underlying65 Try.underlying3 (zeroI _) b m _ rfl hown _ _ rfl hkey ?_; intro c hat hwc; rw [hB]; obtain rfl : c = (f i : Int) := by rw [e1] at hat; injection hat with hat; injection hat with _ hat; exact hat.symm)
    go_ret
    exact ⟨rfl, rfl⟩
  | false =>
    have e1 := g2 hB
    clear g1 g2
    go_enter Try.func46, Try.ntmps46
    go_wp2_with (at_lookup; refine wpList_lookup_own_ok_int _ rfl _ _ 65 rfl 3 3 .i64 lawI Try.underlying65 Try.underlying3 (zeroI _) b m _ rfl hown _ _ rfl hkey ?_; intro c hat hwc; rw [hB])
    go_ret
    exact ⟨by rw [e1]; rfl, rfl⟩

set_option maxRecDepth 100000 in
set_option maxHeartbeats 1000000 in
theorem swap_any (b m i k : Nat) (f : Nat → Nat) (w : World) (h : MapR w b m f) (hm : m ≤ 100000) (hi : i < 100000) (hk : k < 100000) (hfi : f i < 100000) (hfk : f k < 100000) :
    Calls Try.prog 42 #[.map (some b), .int .i64 (i : Int), .int .i64 (k : Int)] w fun e w' => e = .returned (.int .i64 (f k : Int)) ∧ MapR w' b (m + 2) (swapF f i k) ∧ OnlyB b w w' := by
  have HA := Lib.hid (fun j hj => at_any b m j f w h hj)
  obtain ⟨D, hown, hg⟩ := h
  have hlt := hown.lt
  have key1 : keyOf Try.prog 3 (.int .i64 (i : Int)) = some (.int .i64 (i : Int)) := keyOf_int_mk Try.underlying3 (wf_nat (by omega))
  have key2 : keyOf Try.prog 3 (.int .i64 (k : Int)) = some (.int .i64 (k : Int)) := keyOf_int_mk Try.underlying3 (wf_nat (by omega))
  have G1 := Lib.hid (put_row hown.isMap hg i (f k))
  have G2 := Lib.hid (put_row (hown.isMap.put _ _) G1.out k (f i))
  have HSW := Lib.hid (show (fun j => if j = k then f i else if j = i then f k else f j) = swapF f i k from rfl)
  generalize hfi' : f i = A at *
  generalize hfk' : f k = B at *
  go_enter Try.func42, Try.ntmps42
  go_wp2_with fail
  (with_reducible refine (HA.out i (by omega)).mono ?_)
  rintro e w1 ⟨rfl, rfl⟩
  rw [hfi']
  go_wp2_with fail
  (with_reducible refine (HA.out k (by omega)).mono ?_)
  rintro e w1 ⟨rfl, rfl⟩
  rw [hfk']
  go_wp2_with (at_mapUpdate; refine wpList_mapUpdate_own _ rfl _ _ _ 65 rfl 3 3 lawI Try.underlying65 _ b m _ rfl hown (by unfold maxLen; omega) _ _ _ rfl rfl key1 _ [] (plainElem_int Try.underlying3 (wf_nat (by omega))) ?_)
  intro w1 hown1 hg1
  go_wp2_with (at_mapUpdate; refine wpList_mapUpdate_own _ rfl _ _ _ 65 rfl 3 3 lawI Try.underlying65 _ b (m + 1) _ rfl hown1 (by unfold maxLen; omega) _ _ _ rfl rfl key2 _ [] (plainElem_int Try.underlying3 (wf_nat (by omega))) ?_)
  intro w2 hown2 hg2
  go_wp2_with fail
  go_ret
  refine ⟨rfl, ⟨_, hown2, ?_⟩, (OnlyB.grown hg1 (by omega)).trans (OnlyB.grown hg2 (by have := hg1.size; omega))⟩
  rw [← HSW.out]
  exact G2.out
end Go.Proofs.Ytoljilbldkbjpaa
