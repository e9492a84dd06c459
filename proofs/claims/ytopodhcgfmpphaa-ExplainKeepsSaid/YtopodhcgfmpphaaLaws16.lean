/-
  copselaw16.three: what the laws of layer 16 share.
-/
import Derived.Test.YtopodhcgfmpphaaMuch
import Derived.Test.YtopodhcgfmpphaaExplQ
namespace Go.Proofs.Ytopodhcgfmpphaa
open Go.RowKit

def fiveP : TreeP := ⟨1, [⟨[1], 3, 1, 4, 3⟩, ⟨[1], 2, 2, 3, 2⟩, ⟨[], 0, 0, 0, 1⟩, ⟨[], 0, 0, 0, 1⟩, ⟨[], 0, 0, 0, 1⟩]⟩

theorem five_tree : IsTree fiveP := by
  have q2 : Sub fiveP 2 3 0 1 := Sub.leaf (n := ⟨[], 0, 0, 0, 1⟩) rfl rfl
  have q3 : Sub fiveP 3 4 0 1 := Sub.leaf (n := ⟨[], 0, 0, 0, 1⟩) rfl rfl
  have q4 : Sub fiveP 4 5 0 1 := Sub.leaf (n := ⟨[], 0, 0, 0, 1⟩) rfl rfl
  have q1 : Sub fiveP 1 4 (1 + max 0 0) 2 := Sub.node (n := ⟨[1], 2, 2, 3, 2⟩) rfl rfl rfl q2 rfl q3 rfl
  have q0 : Sub fiveP 0 5 (1 + max (1 + max 0 0) 0) 3 := Sub.node (n := ⟨[1], 3, 1, 4, 3⟩) rfl rfl rfl q1 rfl q4 rfl
  exact ⟨by decide, by decide, _, _, q0, by decide, by decide⟩

theorem five_B : treeB fiveP = true := treeB_true.2 five_tree
theorem five_E2 : pathE fiveP [2] = 0 := by unfold pathE; rw [five_B]; rfl
theorem five_E9 : pathE fiveP [9] = 0 := by unfold pathE; rw [five_B]; rfl
theorem five_cnt : cntL fiveP [2] = [2] := rfl
theorem five_room : roomP fiveP [9] 0 = (3, 2147483647) := by decide
theorem five_room2 : roomP fiveP [2] 0 = (2, 2) := by decide
theorem five_E : sumE [fiveP, fiveP] [2] = 0 := by
  refine sumE_of (by decide) (by simp) ?_ rfl
  unfold allT okT
  simp only [List.all_cons, List.all_nil, five_B]
  rfl
theorem one_E : sumE [fiveP] [2] = 0 := by
  refine sumE_of (by decide) (by simp) ?_ rfl
  unfold allT okT
  simp only [List.all_cons, List.all_nil, five_B]
  rfl
theorem five_S : whyS [fiveP, fiveP] [2] 0 = 4 := rfl
theorem five_Lo : whyLo [fiveP, fiveP] [2] 0 = 2 := by
  unfold whyLo
  simp only [List.foldl_cons, List.foldl_nil, five_room2]
  rfl
theorem five_Hi : whyHi [fiveP, fiveP] [2] 0 = 2 := by
  unfold whyHi
  simp only [List.foldl_cons, List.foldl_nil, five_room2]
  rfl
theorem one_S : whyS [fiveP] [2] 0 = 2 := rfl
end Go.Proofs.Ytopodhcgfmpphaa
