/-
  No cell of these rows narrows 'for every input' (looked for: loops, veiled, ifaces, maps, wideKeys, modest, calm, conditions, laid).
  DERIVED. THE GIVEN ROWS OF THIS SEAT. 10 by the template 'for every input the law returns true; each argument reads behind the call as it read before'; 0 by the template 'total and deterministic' (their statements: YtopodhcgfmpphaaTotals.lean).
  GIVEN WITH THE SEED: the statements are not yours to turn. If you find one false, say at which input.
  Laid BY PROGRAM, IN A SANDBOX (cutbox-rows.mjs): the forced cells as the released guide's own fill.sh prints them over the translation 60817c1866037a52… (all of the seat's roots in one cut). By AI agents, Wed Nov 11 2026. No macro, syntax, notation, axiom, sorry.
-/
import Derived.Test.YtopodhcgfmpphaaChecked
import GoSem.Claim
import GoSem.ClaimJoined
import GoSem.ClaimMapViews
import Derived.JoinedTies
import Derived.KernelRfl
namespace Go.Proofs.Ytopodhcgfmpphaa
/- THE CELL 'sum', in the pinned program and in every row, IS THE sha256 OF THE DUMP (.gsa) THAT YtopodhcgfmpphaaProg.lean LOADS. Nothing in Lean hashes anything: it is a label: what it is worth is what the hold of that sum in a sandbox is worth. -/
noncomputable def Try.pinned : Pinned := { name := "ytopodhcgfmpphaa", sum := "60817c1866037a5255d8eb083ef77461f9a3f325b02c02a091581e2842d1eef2", checked := Try.checked }
namespace Rows
def none {H : Type} : Left H := { results := [], args := [] }

/-- 'copselaw16.ExplainTells': WHATEVER THE INPUT: true; the input reads as it did. -/
def explainTellsSpec : ChangeSpec := { name := "explainTells", fn := fun _ => fun
  | [d1, d2, d3] => { results := [.lit (.bool true)], args := [d1, d2, d3] }
  | _ => none }
def explainTellsRow : OpenClaim := { program := "ytopodhcgfmpphaa", sum := "60817c1866037a5255d8eb083ef77461f9a3f325b02c02a091581e2842d1eef2", func := "copse/copselaw16.ExplainTells", spec := "explainTells", unfollowed := true, recurses := true, apart := false }
def ExplainTellsSaid : Prop := explainTellsRow.holds Try.pinned (OpenSpec.ofChange explainTellsSpec)

/-- ITS FALSE NEIGHBOUR: 'it returns false'. Refute it at one input. -/
def explainTellsWrong : ChangeSpec := { name := "explainTells", fn := fun _ => fun
  | [d1, d2, d3] => { results := [.lit (.bool false)], args := [d1, d2, d3] }
  | _ => none }
def ExplainTellsWrongFalsely : Prop := explainTellsRow.holds Try.pinned (OpenSpec.ofChange explainTellsWrong)

/-- 'copselaw16.ExplainRooms': WHATEVER THE INPUT: true; the input reads as it did. -/
def explainRoomsSpec : ChangeSpec := { name := "explainRooms", fn := fun _ => fun
  | [d1, d2, d3, d4] => { results := [.lit (.bool true)], args := [d1, d2, d3, d4] }
  | _ => none }
def explainRoomsRow : OpenClaim := { program := "ytopodhcgfmpphaa", sum := "60817c1866037a5255d8eb083ef77461f9a3f325b02c02a091581e2842d1eef2", func := "copse/copselaw16.ExplainRooms", spec := "explainRooms", unfollowed := true, recurses := true, apart := false }
def ExplainRoomsSaid : Prop := explainRoomsRow.holds Try.pinned (OpenSpec.ofChange explainRoomsSpec)

/-- ITS FALSE NEIGHBOUR: 'it returns false'. Refute it at one input. -/
def explainRoomsWrong : ChangeSpec := { name := "explainRooms", fn := fun _ => fun
  | [d1, d2, d3, d4] => { results := [.lit (.bool false)], args := [d1, d2, d3, d4] }
  | _ => none }
def ExplainRoomsWrongFalsely : Prop := explainRoomsRow.holds Try.pinned (OpenSpec.ofChange explainRoomsWrong)

/-- 'copselaw16.ExplainAll': WHATEVER THE INPUT: true; the input reads as it did. -/
def explainAllSpec : ChangeSpec := { name := "explainAll", fn := fun _ => fun
  | [d1, d2] => { results := [.lit (.bool true)], args := [d1, d2] }
  | _ => none }
def explainAllRow : OpenClaim := { program := "ytopodhcgfmpphaa", sum := "60817c1866037a5255d8eb083ef77461f9a3f325b02c02a091581e2842d1eef2", func := "copse/copselaw16.ExplainAll", spec := "explainAll", unfollowed := true, recurses := true, apart := false }
def ExplainAllSaid : Prop := explainAllRow.holds Try.pinned (OpenSpec.ofChange explainAllSpec)

/-- ITS FALSE NEIGHBOUR: 'it returns false'. Refute it at one input. -/
def explainAllWrong : ChangeSpec := { name := "explainAll", fn := fun _ => fun
  | [d1, d2] => { results := [.lit (.bool false)], args := [d1, d2] }
  | _ => none }
def ExplainAllWrongFalsely : Prop := explainAllRow.holds Try.pinned (OpenSpec.ofChange explainAllWrong)

/-- 'copselaw16.ExplainKeeps': WHATEVER THE INPUT: true; the input reads as it did. -/
def explainKeepsSpec : ChangeSpec := { name := "explainKeeps", fn := fun _ => fun
  | [d1, d2, d3, d4] => { results := [.lit (.bool true)], args := [d1, d2, d3, d4] }
  | _ => none }
def explainKeepsRow : OpenClaim := { program := "ytopodhcgfmpphaa", sum := "60817c1866037a5255d8eb083ef77461f9a3f325b02c02a091581e2842d1eef2", func := "copse/copselaw16.ExplainKeeps", spec := "explainKeeps", unfollowed := true, recurses := true, apart := false }
def ExplainKeepsSaid : Prop := explainKeepsRow.holds Try.pinned (OpenSpec.ofChange explainKeepsSpec)

/-- ITS FALSE NEIGHBOUR: 'it returns false'. Refute it at one input. -/
def explainKeepsWrong : ChangeSpec := { name := "explainKeeps", fn := fun _ => fun
  | [d1, d2, d3, d4] => { results := [.lit (.bool false)], args := [d1, d2, d3, d4] }
  | _ => none }
def ExplainKeepsWrongFalsely : Prop := explainKeepsRow.holds Try.pinned (OpenSpec.ofChange explainKeepsWrong)

/-- 'copselaw14.ForestTells': WHATEVER THE INPUT: true; the input reads as it did. -/
def forestTellsSpec : ChangeSpec := { name := "forestTells", fn := fun _ => fun
  | [d1, d2, d3] => { results := [.lit (.bool true)], args := [d1, d2, d3] }
  | _ => none }
def forestTellsRow : OpenClaim := { program := "ytopodhcgfmpphaa", sum := "60817c1866037a5255d8eb083ef77461f9a3f325b02c02a091581e2842d1eef2", func := "copse/copselaw14.ForestTells", spec := "forestTells", unfollowed := true, recurses := true, apart := false }
def ForestTellsSaid : Prop := forestTellsRow.holds Try.pinned (OpenSpec.ofChange forestTellsSpec)

/-- ITS FALSE NEIGHBOUR: 'it returns false'. Refute it at one input. -/
def forestTellsWrong : ChangeSpec := { name := "forestTells", fn := fun _ => fun
  | [d1, d2, d3] => { results := [.lit (.bool false)], args := [d1, d2, d3] }
  | _ => none }
def ForestTellsWrongFalsely : Prop := forestTellsRow.holds Try.pinned (OpenSpec.ofChange forestTellsWrong)

/-- 'copselaw14.ForestPuts': WHATEVER THE INPUT: true; the input reads as it did. -/
def forestPutsSpec : ChangeSpec := { name := "forestPuts", fn := fun _ => fun
  | [d1, d2, d3] => { results := [.lit (.bool true)], args := [d1, d2, d3] }
  | _ => none }
def forestPutsRow : OpenClaim := { program := "ytopodhcgfmpphaa", sum := "60817c1866037a5255d8eb083ef77461f9a3f325b02c02a091581e2842d1eef2", func := "copse/copselaw14.ForestPuts", spec := "forestPuts", unfollowed := true, recurses := true, apart := false }
def ForestPutsSaid : Prop := forestPutsRow.holds Try.pinned (OpenSpec.ofChange forestPutsSpec)

/-- ITS FALSE NEIGHBOUR: 'it returns false'. Refute it at one input. -/
def forestPutsWrong : ChangeSpec := { name := "forestPuts", fn := fun _ => fun
  | [d1, d2, d3] => { results := [.lit (.bool false)], args := [d1, d2, d3] }
  | _ => none }
def ForestPutsWrongFalsely : Prop := forestPutsRow.holds Try.pinned (OpenSpec.ofChange forestPutsWrong)

/-- 'copselaw14.ForestScores': WHATEVER THE INPUT: true; the input reads as it did. -/
def forestScoresSpec : ChangeSpec := { name := "forestScores", fn := fun _ => fun
  | [d1, d2] => { results := [.lit (.bool true)], args := [d1, d2] }
  | _ => none }
def forestScoresRow : OpenClaim := { program := "ytopodhcgfmpphaa", sum := "60817c1866037a5255d8eb083ef77461f9a3f325b02c02a091581e2842d1eef2", func := "copse/copselaw14.ForestScores", spec := "forestScores", unfollowed := true, recurses := true, apart := false }
def ForestScoresSaid : Prop := forestScoresRow.holds Try.pinned (OpenSpec.ofChange forestScoresSpec)

/-- ITS FALSE NEIGHBOUR: 'it returns false'. Refute it at one input. -/
def forestScoresWrong : ChangeSpec := { name := "forestScores", fn := fun _ => fun
  | [d1, d2] => { results := [.lit (.bool false)], args := [d1, d2] }
  | _ => none }
def ForestScoresWrongFalsely : Prop := forestScoresRow.holds Try.pinned (OpenSpec.ofChange forestScoresWrong)

/-- 'copselaw23.WoodTrees': WHATEVER THE INPUT: true; the input reads as it did. -/
def woodTreesSpec : ChangeSpec := { name := "woodTrees", fn := fun _ => fun
  | [d1, d2] => { results := [.lit (.bool true)], args := [d1, d2] }
  | _ => none }
def woodTreesRow : OpenClaim := { program := "ytopodhcgfmpphaa", sum := "60817c1866037a5255d8eb083ef77461f9a3f325b02c02a091581e2842d1eef2", func := "copse/copselaw23.WoodTrees", spec := "woodTrees", unfollowed := true, recurses := true, apart := false }
def WoodTreesSaid : Prop := woodTreesRow.holds Try.pinned (OpenSpec.ofChange woodTreesSpec)

/-- ITS FALSE NEIGHBOUR: 'it returns false'. Refute it at one input. -/
def woodTreesWrong : ChangeSpec := { name := "woodTrees", fn := fun _ => fun
  | [d1, d2] => { results := [.lit (.bool false)], args := [d1, d2] }
  | _ => none }
def WoodTreesWrongFalsely : Prop := woodTreesRow.holds Try.pinned (OpenSpec.ofChange woodTreesWrong)

/-- 'copselaw23.WoodReads': WHATEVER THE INPUT: true; the input reads as it did. -/
def woodReadsSpec : ChangeSpec := { name := "woodReads", fn := fun _ => fun
  | [d] => { results := [.lit (.bool true)], args := [d] }
  | _ => none }
def woodReadsRow : OpenClaim := { program := "ytopodhcgfmpphaa", sum := "60817c1866037a5255d8eb083ef77461f9a3f325b02c02a091581e2842d1eef2", func := "copse/copselaw23.WoodReads", spec := "woodReads", unfollowed := true, recurses := true, apart := false }
def WoodReadsSaid : Prop := woodReadsRow.holds Try.pinned (OpenSpec.ofChange woodReadsSpec)

/-- ITS FALSE NEIGHBOUR: 'it returns false'. Refute it at one input. -/
def woodReadsWrong : ChangeSpec := { name := "woodReads", fn := fun _ => fun
  | [d] => { results := [.lit (.bool false)], args := [d] }
  | _ => none }
def WoodReadsWrongFalsely : Prop := woodReadsRow.holds Try.pinned (OpenSpec.ofChange woodReadsWrong)

/-- 'copselaw23.WoodForests': WHATEVER THE INPUT: true; the input reads as it did. -/
def woodForestsSpec : ChangeSpec := { name := "woodForests", fn := fun _ => fun
  | [d1, d2] => { results := [.lit (.bool true)], args := [d1, d2] }
  | _ => none }
def woodForestsRow : OpenClaim := { program := "ytopodhcgfmpphaa", sum := "60817c1866037a5255d8eb083ef77461f9a3f325b02c02a091581e2842d1eef2", func := "copse/copselaw23.WoodForests", spec := "woodForests", unfollowed := true, recurses := true, apart := false }
def WoodForestsSaid : Prop := woodForestsRow.holds Try.pinned (OpenSpec.ofChange woodForestsSpec)

/-- ITS FALSE NEIGHBOUR: 'it returns false'. Refute it at one input. -/
def woodForestsWrong : ChangeSpec := { name := "woodForests", fn := fun _ => fun
  | [d1, d2] => { results := [.lit (.bool false)], args := [d1, d2] }
  | _ => none }
def WoodForestsWrongFalsely : Prop := woodForestsRow.holds Try.pinned (OpenSpec.ofChange woodForestsWrong)

/- THE SECOND FORM. 'bulk': how many values and letters a reading holds, each counted each time it is reached (what is shared counts as often as it is met; a slice's spare places count too). A statement '..UptoSaid' is the law's where the arguments, and the package variables that the reading takes, are together of bulk at most 1048576: NARROWER than '..Said'. Prove '..Said' where nothing that the law and all that it calls make is longer than what came in: it says more and counts as full. Else prove '..UptoSaid'. A law counts once. -/
mutual
def uptoBulk {H : Type} : DataW H → Nat
  | .lit (.string bytes) => bytes.length + 1
  | .lit _ => 1
  | .nil => 1
  | .ptr d => uptoBulk d + 1
  | .slice elems spare => uptoBulkAll elems + uptoBulkAll spare + 1
  | .agg parts => uptoBulkAll parts + 1
  | .iface _ d => uptoBulk d + 1
  | .map entries => uptoBulkEntries entries + 1
  | .held _ => 1
def uptoBulkAll {H : Type} : List (DataW H) → Nat
  | [] => 0
  | d :: r => uptoBulk d + uptoBulkAll r
def uptoBulkEntries {H : Type} : List (Lit × DataW H) → Nat
  | [] => 0
  | x :: r => uptoBulkEntry x + uptoBulkEntries r
def uptoBulkEntry {H : Type} : Lit × DataW H → Nat
  | (.string bytes, d) => bytes.length + uptoBulk d + 1
  | (_, d) => uptoBulk d + 1
 end
def uptoSmall : (H : Type) → List (DataW H) → Bool := fun _ ds => decide (uptoBulkAll ds ≤ 1048576)
def OpenSpec.upto (s : _root_.Go.ChangeSpec) : _root_.Go.OpenSpec := { _root_.Go.OpenSpec.ofChange s with cond := some uptoSmall }

/-- 'copselaw16.ExplainTells', WHERE WHAT IT READS IS OF BULK AT MOST 1048576: true; the input reads as it did. -/
def explainTellsUptoRow : OpenClaim := { program := "ytopodhcgfmpphaa", sum := "60817c1866037a5255d8eb083ef77461f9a3f325b02c02a091581e2842d1eef2", func := "copse/copselaw16.ExplainTells", spec := "explainTells", unfollowed := true, recurses := true, apart := false, narrowed := true }
def ExplainTellsUptoSaid : Prop := explainTellsUptoRow.holds Try.pinned (OpenSpec.upto explainTellsSpec)

/-- 'copselaw16.ExplainRooms', WHERE WHAT IT READS IS OF BULK AT MOST 1048576: true; the input reads as it did. -/
def explainRoomsUptoRow : OpenClaim := { program := "ytopodhcgfmpphaa", sum := "60817c1866037a5255d8eb083ef77461f9a3f325b02c02a091581e2842d1eef2", func := "copse/copselaw16.ExplainRooms", spec := "explainRooms", unfollowed := true, recurses := true, apart := false, narrowed := true }
def ExplainRoomsUptoSaid : Prop := explainRoomsUptoRow.holds Try.pinned (OpenSpec.upto explainRoomsSpec)

/-- 'copselaw16.ExplainAll', WHERE WHAT IT READS IS OF BULK AT MOST 1048576: true; the input reads as it did. -/
def explainAllUptoRow : OpenClaim := { program := "ytopodhcgfmpphaa", sum := "60817c1866037a5255d8eb083ef77461f9a3f325b02c02a091581e2842d1eef2", func := "copse/copselaw16.ExplainAll", spec := "explainAll", unfollowed := true, recurses := true, apart := false, narrowed := true }
def ExplainAllUptoSaid : Prop := explainAllUptoRow.holds Try.pinned (OpenSpec.upto explainAllSpec)

/-- 'copselaw16.ExplainKeeps', WHERE WHAT IT READS IS OF BULK AT MOST 1048576: true; the input reads as it did. -/
def explainKeepsUptoRow : OpenClaim := { program := "ytopodhcgfmpphaa", sum := "60817c1866037a5255d8eb083ef77461f9a3f325b02c02a091581e2842d1eef2", func := "copse/copselaw16.ExplainKeeps", spec := "explainKeeps", unfollowed := true, recurses := true, apart := false, narrowed := true }
def ExplainKeepsUptoSaid : Prop := explainKeepsUptoRow.holds Try.pinned (OpenSpec.upto explainKeepsSpec)

/-- 'copselaw14.ForestTells', WHERE WHAT IT READS IS OF BULK AT MOST 1048576: true; the input reads as it did. -/
def forestTellsUptoRow : OpenClaim := { program := "ytopodhcgfmpphaa", sum := "60817c1866037a5255d8eb083ef77461f9a3f325b02c02a091581e2842d1eef2", func := "copse/copselaw14.ForestTells", spec := "forestTells", unfollowed := true, recurses := true, apart := false, narrowed := true }
def ForestTellsUptoSaid : Prop := forestTellsUptoRow.holds Try.pinned (OpenSpec.upto forestTellsSpec)

/-- 'copselaw14.ForestPuts', WHERE WHAT IT READS IS OF BULK AT MOST 1048576: true; the input reads as it did. -/
def forestPutsUptoRow : OpenClaim := { program := "ytopodhcgfmpphaa", sum := "60817c1866037a5255d8eb083ef77461f9a3f325b02c02a091581e2842d1eef2", func := "copse/copselaw14.ForestPuts", spec := "forestPuts", unfollowed := true, recurses := true, apart := false, narrowed := true }
def ForestPutsUptoSaid : Prop := forestPutsUptoRow.holds Try.pinned (OpenSpec.upto forestPutsSpec)

/-- 'copselaw14.ForestScores', WHERE WHAT IT READS IS OF BULK AT MOST 1048576: true; the input reads as it did. -/
def forestScoresUptoRow : OpenClaim := { program := "ytopodhcgfmpphaa", sum := "60817c1866037a5255d8eb083ef77461f9a3f325b02c02a091581e2842d1eef2", func := "copse/copselaw14.ForestScores", spec := "forestScores", unfollowed := true, recurses := true, apart := false, narrowed := true }
def ForestScoresUptoSaid : Prop := forestScoresUptoRow.holds Try.pinned (OpenSpec.upto forestScoresSpec)

/-- 'copselaw23.WoodTrees', WHERE WHAT IT READS IS OF BULK AT MOST 1048576: true; the input reads as it did. -/
def woodTreesUptoRow : OpenClaim := { program := "ytopodhcgfmpphaa", sum := "60817c1866037a5255d8eb083ef77461f9a3f325b02c02a091581e2842d1eef2", func := "copse/copselaw23.WoodTrees", spec := "woodTrees", unfollowed := true, recurses := true, apart := false, narrowed := true }
def WoodTreesUptoSaid : Prop := woodTreesUptoRow.holds Try.pinned (OpenSpec.upto woodTreesSpec)

/-- 'copselaw23.WoodReads', WHERE WHAT IT READS IS OF BULK AT MOST 1048576: true; the input reads as it did. -/
def woodReadsUptoRow : OpenClaim := { program := "ytopodhcgfmpphaa", sum := "60817c1866037a5255d8eb083ef77461f9a3f325b02c02a091581e2842d1eef2", func := "copse/copselaw23.WoodReads", spec := "woodReads", unfollowed := true, recurses := true, apart := false, narrowed := true }
def WoodReadsUptoSaid : Prop := woodReadsUptoRow.holds Try.pinned (OpenSpec.upto woodReadsSpec)

/-- 'copselaw23.WoodForests', WHERE WHAT IT READS IS OF BULK AT MOST 1048576: true; the input reads as it did. -/
def woodForestsUptoRow : OpenClaim := { program := "ytopodhcgfmpphaa", sum := "60817c1866037a5255d8eb083ef77461f9a3f325b02c02a091581e2842d1eef2", func := "copse/copselaw23.WoodForests", spec := "woodForests", unfollowed := true, recurses := true, apart := false, narrowed := true }
def WoodForestsUptoSaid : Prop := woodForestsUptoRow.holds Try.pinned (OpenSpec.upto woodForestsSpec)

end Rows
end Go.Proofs.Ytopodhcgfmpphaa
