/-
  No cell of these rows narrows 'for every input' (looked for: loops, veiled, ifaces, maps, wideKeys, modest, calm, conditions, laid).
  DERIVED. THE GIVEN ROWS OF THIS SEAT. 11 by the template 'for every input the law returns true; each argument reads behind the call as it read before'; 0 by the template 'total and deterministic' (their statements: YtjmjnkilgoelbaaTotals.lean).
  GIVEN WITH THE SEED: the statements are not yours to turn. If you find one false, say at which input.
  Laid BY PROGRAM, IN A SANDBOX (cutbox-rows.mjs): the forced cells as the released guide's own fill.sh prints them over the translation 1f23636ca5dfbe14… (all of the seat's roots in one cut). By AI agents, Wed Nov 11 2026. No macro, syntax, notation, axiom, sorry.
-/
import Derived.Test.YtjmjnkilgoelbaaChecked
import GoSem.Claim
import GoSem.ClaimJoined
import GoSem.ClaimMapViews
import Derived.JoinedTies
import Derived.KernelRfl
namespace Go.Proofs.Ytjmjnkilgoelbaa
/- THE CELL 'sum', in the pinned program and in every row, IS THE sha256 OF THE DUMP (.gsa) THAT YtjmjnkilgoelbaaProg.lean LOADS. Nothing in Lean hashes anything: it is a label: what it is worth is what the hold of that sum in a sandbox is worth. -/
noncomputable def Try.pinned : Pinned := { name := "ytjmjnkilgoelbaa", sum := "1f23636ca5dfbe14a1a088e6549ce847c92f82938d52621d751027684fd5473a", checked := Try.checked }
namespace Rows
def none {H : Type} : Left H := { results := [], args := [] }

/-- 'copselaw18.BagDoes': WHATEVER THE INPUT: true; the input reads as it did. -/
def bagDoesSpec : ChangeSpec := { name := "bagDoes", fn := fun _ => fun
  | [d1, d2, d3] => { results := [.lit (.bool true)], args := [d1, d2, d3] }
  | _ => none }
def bagDoesRow : OpenClaim := { program := "ytjmjnkilgoelbaa", sum := "1f23636ca5dfbe14a1a088e6549ce847c92f82938d52621d751027684fd5473a", func := "copse/copselaw18.BagDoes", spec := "bagDoes", inPlace := ["slices.overlaps[copse/api.Score]", "slices.overlaps[[]copse/api.Score]"], unfollowed := true, recurses := true, apart := false }
def BagDoesSaid : Prop := bagDoesRow.holds Try.pinned (OpenSpec.ofChange bagDoesSpec)

/-- ITS FALSE NEIGHBOUR: 'it returns false'. Refute it at one input. -/
def bagDoesWrong : ChangeSpec := { name := "bagDoes", fn := fun _ => fun
  | [d1, d2, d3] => { results := [.lit (.bool false)], args := [d1, d2, d3] }
  | _ => none }
def BagDoesWrongFalsely : Prop := bagDoesRow.holds Try.pinned (OpenSpec.ofChange bagDoesWrong)

/-- 'copselaw18.BagOrders': WHATEVER THE INPUT: true; the input reads as it did. -/
def bagOrdersSpec : ChangeSpec := { name := "bagOrders", fn := fun _ => fun
  | [d1, d2] => { results := [.lit (.bool true)], args := [d1, d2] }
  | _ => none }
def bagOrdersRow : OpenClaim := { program := "ytjmjnkilgoelbaa", sum := "1f23636ca5dfbe14a1a088e6549ce847c92f82938d52621d751027684fd5473a", func := "copse/copselaw18.BagOrders", spec := "bagOrders", inPlace := ["slices.overlaps[copse/api.Score]", "slices.overlaps[[]copse/api.Score]"], unfollowed := true, recurses := true, apart := false }
def BagOrdersSaid : Prop := bagOrdersRow.holds Try.pinned (OpenSpec.ofChange bagOrdersSpec)

/-- ITS FALSE NEIGHBOUR: 'it returns false'. Refute it at one input. -/
def bagOrdersWrong : ChangeSpec := { name := "bagOrders", fn := fun _ => fun
  | [d1, d2] => { results := [.lit (.bool false)], args := [d1, d2] }
  | _ => none }
def BagOrdersWrongFalsely : Prop := bagOrdersRow.holds Try.pinned (OpenSpec.ofChange bagOrdersWrong)

/-- 'copselaw18.BagRanks': WHATEVER THE INPUT: true; the input reads as it did. -/
def bagRanksSpec : ChangeSpec := { name := "bagRanks", fn := fun _ => fun
  | [d] => { results := [.lit (.bool true)], args := [d] }
  | _ => none }
def bagRanksRow : OpenClaim := { program := "ytjmjnkilgoelbaa", sum := "1f23636ca5dfbe14a1a088e6549ce847c92f82938d52621d751027684fd5473a", func := "copse/copselaw18.BagRanks", spec := "bagRanks", inPlace := ["slices.overlaps[copse/api.Score]", "slices.overlaps[[]copse/api.Score]"], unfollowed := true, recurses := true, apart := false }
def BagRanksSaid : Prop := bagRanksRow.holds Try.pinned (OpenSpec.ofChange bagRanksSpec)

/-- ITS FALSE NEIGHBOUR: 'it returns false'. Refute it at one input. -/
def bagRanksWrong : ChangeSpec := { name := "bagRanks", fn := fun _ => fun
  | [d] => { results := [.lit (.bool false)], args := [d] }
  | _ => none }
def BagRanksWrongFalsely : Prop := bagRanksRow.holds Try.pinned (OpenSpec.ofChange bagRanksWrong)

/-- 'copselaw22.ItemScores': WHATEVER THE INPUT: true; the input reads as it did. -/
def itemScoresSpec : ChangeSpec := { name := "itemScores", fn := fun _ => fun
  | [d1, d2] => { results := [.lit (.bool true)], args := [d1, d2] }
  | _ => none }
def itemScoresRow : OpenClaim := { program := "ytjmjnkilgoelbaa", sum := "1f23636ca5dfbe14a1a088e6549ce847c92f82938d52621d751027684fd5473a", func := "copse/copselaw22.ItemScores", spec := "itemScores", unfollowed := true, recurses := true, apart := false }
def ItemScoresSaid : Prop := itemScoresRow.holds Try.pinned (OpenSpec.ofChange itemScoresSpec)

/-- ITS FALSE NEIGHBOUR: 'it returns false'. Refute it at one input. -/
def itemScoresWrong : ChangeSpec := { name := "itemScores", fn := fun _ => fun
  | [d1, d2] => { results := [.lit (.bool false)], args := [d1, d2] }
  | _ => none }
def ItemScoresWrongFalsely : Prop := itemScoresRow.holds Try.pinned (OpenSpec.ofChange itemScoresWrong)

/-- 'copselaw22.ItemAsks': WHATEVER THE INPUT: true; the input reads as it did. -/
def itemAsksSpec : ChangeSpec := { name := "itemAsks", fn := fun _ => fun
  | [d1, d2] => { results := [.lit (.bool true)], args := [d1, d2] }
  | _ => none }
def itemAsksRow : OpenClaim := { program := "ytjmjnkilgoelbaa", sum := "1f23636ca5dfbe14a1a088e6549ce847c92f82938d52621d751027684fd5473a", func := "copse/copselaw22.ItemAsks", spec := "itemAsks", unfollowed := true, recurses := true, apart := false }
def ItemAsksSaid : Prop := itemAsksRow.holds Try.pinned (OpenSpec.ofChange itemAsksSpec)

/-- ITS FALSE NEIGHBOUR: 'it returns false'. Refute it at one input. -/
def itemAsksWrong : ChangeSpec := { name := "itemAsks", fn := fun _ => fun
  | [d1, d2] => { results := [.lit (.bool false)], args := [d1, d2] }
  | _ => none }
def ItemAsksWrongFalsely : Prop := itemAsksRow.holds Try.pinned (OpenSpec.ofChange itemAsksWrong)

/-- 'copselaw22.ItemConfs': WHATEVER THE INPUT: true; the input reads as it did. -/
def itemConfsSpec : ChangeSpec := { name := "itemConfs", fn := fun _ => fun
  | [d1, d2] => { results := [.lit (.bool true)], args := [d1, d2] }
  | _ => none }
def itemConfsRow : OpenClaim := { program := "ytjmjnkilgoelbaa", sum := "1f23636ca5dfbe14a1a088e6549ce847c92f82938d52621d751027684fd5473a", func := "copse/copselaw22.ItemConfs", spec := "itemConfs", unfollowed := true, recurses := true, apart := false }
def ItemConfsSaid : Prop := itemConfsRow.holds Try.pinned (OpenSpec.ofChange itemConfsSpec)

/-- ITS FALSE NEIGHBOUR: 'it returns false'. Refute it at one input. -/
def itemConfsWrong : ChangeSpec := { name := "itemConfs", fn := fun _ => fun
  | [d1, d2] => { results := [.lit (.bool false)], args := [d1, d2] }
  | _ => none }
def ItemConfsWrongFalsely : Prop := itemConfsRow.holds Try.pinned (OpenSpec.ofChange itemConfsWrong)

/-- 'copselaw22.ItemSeens': WHATEVER THE INPUT: true; the input reads as it did. -/
def itemSeensSpec : ChangeSpec := { name := "itemSeens", fn := fun _ => fun
  | [d1, d2, d3] => { results := [.lit (.bool true)], args := [d1, d2, d3] }
  | _ => none }
def itemSeensRow : OpenClaim := { program := "ytjmjnkilgoelbaa", sum := "1f23636ca5dfbe14a1a088e6549ce847c92f82938d52621d751027684fd5473a", func := "copse/copselaw22.ItemSeens", spec := "itemSeens", unfollowed := true, recurses := true, apart := false }
def ItemSeensSaid : Prop := itemSeensRow.holds Try.pinned (OpenSpec.ofChange itemSeensSpec)

/-- ITS FALSE NEIGHBOUR: 'it returns false'. Refute it at one input. -/
def itemSeensWrong : ChangeSpec := { name := "itemSeens", fn := fun _ => fun
  | [d1, d2, d3] => { results := [.lit (.bool false)], args := [d1, d2, d3] }
  | _ => none }
def ItemSeensWrongFalsely : Prop := itemSeensRow.holds Try.pinned (OpenSpec.ofChange itemSeensWrong)

/-- 'copselaw19.QuantLines': WHATEVER THE INPUT: true; the input reads as it did. -/
def quantLinesSpec : ChangeSpec := { name := "quantLines", fn := fun _ => fun
  | [d1, d2, d3] => { results := [.lit (.bool true)], args := [d1, d2, d3] }
  | _ => none }
def quantLinesRow : OpenClaim := { program := "ytjmjnkilgoelbaa", sum := "1f23636ca5dfbe14a1a088e6549ce847c92f82938d52621d751027684fd5473a", func := "copse/copselaw19.QuantLines", spec := "quantLines", inPlace := ["slices.overlaps[copse/api.Score]", "slices.overlaps[[]copse/api.Score]"], unfollowed := true, recurses := true, apart := false }
def QuantLinesSaid : Prop := quantLinesRow.holds Try.pinned (OpenSpec.ofChange quantLinesSpec)

/-- ITS FALSE NEIGHBOUR: 'it returns false'. Refute it at one input. -/
def quantLinesWrong : ChangeSpec := { name := "quantLines", fn := fun _ => fun
  | [d1, d2, d3] => { results := [.lit (.bool false)], args := [d1, d2, d3] }
  | _ => none }
def QuantLinesWrongFalsely : Prop := quantLinesRow.holds Try.pinned (OpenSpec.ofChange quantLinesWrong)

/-- 'copselaw15.FlatPacks': WHATEVER THE INPUT: true; the input reads as it did. -/
def flatPacksSpec : ChangeSpec := { name := "flatPacks", fn := fun _ => fun
  | [d1, d2] => { results := [.lit (.bool true)], args := [d1, d2] }
  | _ => none }
def flatPacksRow : OpenClaim := { program := "ytjmjnkilgoelbaa", sum := "1f23636ca5dfbe14a1a088e6549ce847c92f82938d52621d751027684fd5473a", func := "copse/copselaw15.FlatPacks", spec := "flatPacks", inPlace := ["slices.overlaps[int]"], recurses := true, apart := false }
def FlatPacksSaid : Prop := flatPacksRow.holds Try.pinned (OpenSpec.ofChange flatPacksSpec)

/-- ITS FALSE NEIGHBOUR: 'it returns false'. Refute it at one input. -/
def flatPacksWrong : ChangeSpec := { name := "flatPacks", fn := fun _ => fun
  | [d1, d2] => { results := [.lit (.bool false)], args := [d1, d2] }
  | _ => none }
def FlatPacksWrongFalsely : Prop := flatPacksRow.holds Try.pinned (OpenSpec.ofChange flatPacksWrong)

/-- 'copselaw15.FlatSums': WHATEVER THE INPUT: true; the input reads as it did. -/
def flatSumsSpec : ChangeSpec := { name := "flatSums", fn := fun _ => fun
  | [d1, d2, d3] => { results := [.lit (.bool true)], args := [d1, d2, d3] }
  | _ => none }
def flatSumsRow : OpenClaim := { program := "ytjmjnkilgoelbaa", sum := "1f23636ca5dfbe14a1a088e6549ce847c92f82938d52621d751027684fd5473a", func := "copse/copselaw15.FlatSums", spec := "flatSums", inPlace := ["slices.overlaps[int]"], recurses := true, apart := false }
def FlatSumsSaid : Prop := flatSumsRow.holds Try.pinned (OpenSpec.ofChange flatSumsSpec)

/-- ITS FALSE NEIGHBOUR: 'it returns false'. Refute it at one input. -/
def flatSumsWrong : ChangeSpec := { name := "flatSums", fn := fun _ => fun
  | [d1, d2, d3] => { results := [.lit (.bool false)], args := [d1, d2, d3] }
  | _ => none }
def FlatSumsWrongFalsely : Prop := flatSumsRow.holds Try.pinned (OpenSpec.ofChange flatSumsWrong)

/-- 'copselaw15.FlatPuts': WHATEVER THE INPUT: true; the input reads as it did. -/
def flatPutsSpec : ChangeSpec := { name := "flatPuts", fn := fun _ => fun
  | [d1, d2] => { results := [.lit (.bool true)], args := [d1, d2] }
  | _ => none }
def flatPutsRow : OpenClaim := { program := "ytjmjnkilgoelbaa", sum := "1f23636ca5dfbe14a1a088e6549ce847c92f82938d52621d751027684fd5473a", func := "copse/copselaw15.FlatPuts", spec := "flatPuts", inPlace := ["slices.overlaps[int]"], recurses := true, apart := false }
def FlatPutsSaid : Prop := flatPutsRow.holds Try.pinned (OpenSpec.ofChange flatPutsSpec)

/-- ITS FALSE NEIGHBOUR: 'it returns false'. Refute it at one input. -/
def flatPutsWrong : ChangeSpec := { name := "flatPuts", fn := fun _ => fun
  | [d1, d2] => { results := [.lit (.bool false)], args := [d1, d2] }
  | _ => none }
def FlatPutsWrongFalsely : Prop := flatPutsRow.holds Try.pinned (OpenSpec.ofChange flatPutsWrong)

/- THE SECOND FORM. 'bulk': how many values and letters a reading holds, each counted each time it is reached (what is shared counts as often as it is met; a slice's spare places count too). A statement '..UptoSaid' is the law's where the arguments, and the package variables that the reading takes, are together of bulk at most 1048576: NARROWER than '..Said'. Prove '..Said' where nothing that the law and all that it calls make is longer than what came in: it says more and counts as full. Else prove '..UptoSaid'. A law counts once. -/
mutual
def uptoBulk {H : Type} : DataW H → Nat
  | .lit (.string bytes) => bytes.length + 1
  | .lit _ => 1
  | .nil => 1
  | .ptr d => uptoBulk d + 1
  | .slice elems spare => uptoBulkAll elems + uptoBulkAll spare + 1
  | .agg parts => uptoBulkAll parts + 1
  | .iface _ d => uptoBulk d + 1
  | .map entries => uptoBulkEntries entries + 1
  | .held _ => 1
def uptoBulkAll {H : Type} : List (DataW H) → Nat
  | [] => 0
  | d :: r => uptoBulk d + uptoBulkAll r
def uptoBulkEntries {H : Type} : List (Lit × DataW H) → Nat
  | [] => 0
  | x :: r => uptoBulkEntry x + uptoBulkEntries r
def uptoBulkEntry {H : Type} : Lit × DataW H → Nat
  | (.string bytes, d) => bytes.length + uptoBulk d + 1
  | (_, d) => uptoBulk d + 1
 end
def uptoSmall : (H : Type) → List (DataW H) → Bool := fun _ ds => decide (uptoBulkAll ds ≤ 1048576)
def OpenSpec.upto (s : _root_.Go.ChangeSpec) : _root_.Go.OpenSpec := { _root_.Go.OpenSpec.ofChange s with cond := some uptoSmall }

/-- 'copselaw18.BagDoes', WHERE WHAT IT READS IS OF BULK AT MOST 1048576: true; the input reads as it did. -/
def bagDoesUptoRow : OpenClaim := { program := "ytjmjnkilgoelbaa", sum := "1f23636ca5dfbe14a1a088e6549ce847c92f82938d52621d751027684fd5473a", func := "copse/copselaw18.BagDoes", spec := "bagDoes", inPlace := ["slices.overlaps[copse/api.Score]", "slices.overlaps[[]copse/api.Score]"], unfollowed := true, recurses := true, apart := false, narrowed := true }
def BagDoesUptoSaid : Prop := bagDoesUptoRow.holds Try.pinned (OpenSpec.upto bagDoesSpec)

/-- 'copselaw18.BagOrders', WHERE WHAT IT READS IS OF BULK AT MOST 1048576: true; the input reads as it did. -/
def bagOrdersUptoRow : OpenClaim := { program := "ytjmjnkilgoelbaa", sum := "1f23636ca5dfbe14a1a088e6549ce847c92f82938d52621d751027684fd5473a", func := "copse/copselaw18.BagOrders", spec := "bagOrders", inPlace := ["slices.overlaps[copse/api.Score]", "slices.overlaps[[]copse/api.Score]"], unfollowed := true, recurses := true, apart := false, narrowed := true }
def BagOrdersUptoSaid : Prop := bagOrdersUptoRow.holds Try.pinned (OpenSpec.upto bagOrdersSpec)

/-- 'copselaw18.BagRanks', WHERE WHAT IT READS IS OF BULK AT MOST 1048576: true; the input reads as it did. -/
def bagRanksUptoRow : OpenClaim := { program := "ytjmjnkilgoelbaa", sum := "1f23636ca5dfbe14a1a088e6549ce847c92f82938d52621d751027684fd5473a", func := "copse/copselaw18.BagRanks", spec := "bagRanks", inPlace := ["slices.overlaps[copse/api.Score]", "slices.overlaps[[]copse/api.Score]"], unfollowed := true, recurses := true, apart := false, narrowed := true }
def BagRanksUptoSaid : Prop := bagRanksUptoRow.holds Try.pinned (OpenSpec.upto bagRanksSpec)

/-- 'copselaw22.ItemScores', WHERE WHAT IT READS IS OF BULK AT MOST 1048576: true; the input reads as it did. -/
def itemScoresUptoRow : OpenClaim := { program := "ytjmjnkilgoelbaa", sum := "1f23636ca5dfbe14a1a088e6549ce847c92f82938d52621d751027684fd5473a", func := "copse/copselaw22.ItemScores", spec := "itemScores", unfollowed := true, recurses := true, apart := false, narrowed := true }
def ItemScoresUptoSaid : Prop := itemScoresUptoRow.holds Try.pinned (OpenSpec.upto itemScoresSpec)

/-- 'copselaw22.ItemAsks', WHERE WHAT IT READS IS OF BULK AT MOST 1048576: true; the input reads as it did. -/
def itemAsksUptoRow : OpenClaim := { program := "ytjmjnkilgoelbaa", sum := "1f23636ca5dfbe14a1a088e6549ce847c92f82938d52621d751027684fd5473a", func := "copse/copselaw22.ItemAsks", spec := "itemAsks", unfollowed := true, recurses := true, apart := false, narrowed := true }
def ItemAsksUptoSaid : Prop := itemAsksUptoRow.holds Try.pinned (OpenSpec.upto itemAsksSpec)

/-- 'copselaw22.ItemConfs', WHERE WHAT IT READS IS OF BULK AT MOST 1048576: true; the input reads as it did. -/
def itemConfsUptoRow : OpenClaim := { program := "ytjmjnkilgoelbaa", sum := "1f23636ca5dfbe14a1a088e6549ce847c92f82938d52621d751027684fd5473a", func := "copse/copselaw22.ItemConfs", spec := "itemConfs", unfollowed := true, recurses := true, apart := false, narrowed := true }
def ItemConfsUptoSaid : Prop := itemConfsUptoRow.holds Try.pinned (OpenSpec.upto itemConfsSpec)

/-- 'copselaw22.ItemSeens', WHERE WHAT IT READS IS OF BULK AT MOST 1048576: true; the input reads as it did. -/
def itemSeensUptoRow : OpenClaim := { program := "ytjmjnkilgoelbaa", sum := "1f23636ca5dfbe14a1a088e6549ce847c92f82938d52621d751027684fd5473a", func := "copse/copselaw22.ItemSeens", spec := "itemSeens", unfollowed := true, recurses := true, apart := false, narrowed := true }
def ItemSeensUptoSaid : Prop := itemSeensUptoRow.holds Try.pinned (OpenSpec.upto itemSeensSpec)

/-- 'copselaw19.QuantLines', WHERE WHAT IT READS IS OF BULK AT MOST 1048576: true; the input reads as it did. -/
def quantLinesUptoRow : OpenClaim := { program := "ytjmjnkilgoelbaa", sum := "1f23636ca5dfbe14a1a088e6549ce847c92f82938d52621d751027684fd5473a", func := "copse/copselaw19.QuantLines", spec := "quantLines", inPlace := ["slices.overlaps[copse/api.Score]", "slices.overlaps[[]copse/api.Score]"], unfollowed := true, recurses := true, apart := false, narrowed := true }
def QuantLinesUptoSaid : Prop := quantLinesUptoRow.holds Try.pinned (OpenSpec.upto quantLinesSpec)

/-- 'copselaw15.FlatPacks', WHERE WHAT IT READS IS OF BULK AT MOST 1048576: true; the input reads as it did. -/
def flatPacksUptoRow : OpenClaim := { program := "ytjmjnkilgoelbaa", sum := "1f23636ca5dfbe14a1a088e6549ce847c92f82938d52621d751027684fd5473a", func := "copse/copselaw15.FlatPacks", spec := "flatPacks", inPlace := ["slices.overlaps[int]"], recurses := true, apart := false, narrowed := true }
def FlatPacksUptoSaid : Prop := flatPacksUptoRow.holds Try.pinned (OpenSpec.upto flatPacksSpec)

/-- 'copselaw15.FlatSums', WHERE WHAT IT READS IS OF BULK AT MOST 1048576: true; the input reads as it did. -/
def flatSumsUptoRow : OpenClaim := { program := "ytjmjnkilgoelbaa", sum := "1f23636ca5dfbe14a1a088e6549ce847c92f82938d52621d751027684fd5473a", func := "copse/copselaw15.FlatSums", spec := "flatSums", inPlace := ["slices.overlaps[int]"], recurses := true, apart := false, narrowed := true }
def FlatSumsUptoSaid : Prop := flatSumsUptoRow.holds Try.pinned (OpenSpec.upto flatSumsSpec)

/-- 'copselaw15.FlatPuts', WHERE WHAT IT READS IS OF BULK AT MOST 1048576: true; the input reads as it did. -/
def flatPutsUptoRow : OpenClaim := { program := "ytjmjnkilgoelbaa", sum := "1f23636ca5dfbe14a1a088e6549ce847c92f82938d52621d751027684fd5473a", func := "copse/copselaw15.FlatPuts", spec := "flatPuts", inPlace := ["slices.overlaps[int]"], recurses := true, apart := false, narrowed := true }
def FlatPutsUptoSaid : Prop := flatPutsUptoRow.holds Try.pinned (OpenSpec.upto flatPutsSpec)

end Rows
end Go.Proofs.Ytjmjnkilgoelbaa
