/-
  No cell of these rows narrows 'for every input' (looked for: loops, veiled, ifaces, maps, wideKeys, modest, calm, conditions, laid).
  DERIVED. THE GIVEN ROWS OF THIS SEAT. 6 by the template 'for every input the law returns true; each argument reads behind the call as it read before'; 0 by the template 'total and deterministic' (their statements: YtdbonlpkmncggaaTotals.lean).
  GIVEN WITH THE SEED: the statements are not yours to turn. If you find one false, say at which input.
  Laid BY PROGRAM, IN A SANDBOX (cutbox-rows.mjs): the forced cells as the released guide's own fill.sh prints them over the translation 7b5027b4edbf093d… (all of the seat's roots in one cut). By AI agents, Wed Nov 11 2026. No macro, syntax, notation, axiom, sorry.
-/
import Derived.Test.YtdbonlpkmncggaaChecked
import GoSem.Claim
import GoSem.ClaimJoined
import GoSem.ClaimMapViews
import Derived.JoinedTies
import Derived.KernelRfl
namespace Go.Proofs.Ytdbonlpkmncggaa
/- THE CELL 'sum', in the pinned program and in every row, IS THE sha256 OF THE DUMP (.gsa) THAT YtdbonlpkmncggaaProg.lean LOADS. Nothing in Lean hashes anything: it is a label: what it is worth is what the hold of that sum in a sandbox is worth. -/
noncomputable def Try.pinned : Pinned := { name := "ytdbonlpkmncggaa", sum := "7b5027b4edbf093d3f5df51031c316a62a00b3e7291383567d058be13289a912", checked := Try.checked }
namespace Rows
def none {H : Type} : Left H := { results := [], args := [] }

/-- 'copselaw14.ForestTells': WHATEVER THE INPUT: true; the input reads as it did. -/
def forestTellsSpec : ChangeSpec := { name := "forestTells", fn := fun _ => fun
  | [d1, d2, d3] => { results := [.lit (.bool true)], args := [d1, d2, d3] }
  | _ => none }
def forestTellsRow : OpenClaim := { program := "ytdbonlpkmncggaa", sum := "7b5027b4edbf093d3f5df51031c316a62a00b3e7291383567d058be13289a912", func := "copse/copselaw14.ForestTells", spec := "forestTells", unfollowed := true, recurses := true, apart := false }
def ForestTellsSaid : Prop := forestTellsRow.holds Try.pinned (OpenSpec.ofChange forestTellsSpec)

/-- ITS FALSE NEIGHBOUR: 'it returns false'. Refute it at one input. -/
def forestTellsWrong : ChangeSpec := { name := "forestTells", fn := fun _ => fun
  | [d1, d2, d3] => { results := [.lit (.bool false)], args := [d1, d2, d3] }
  | _ => none }
def ForestTellsWrongFalsely : Prop := forestTellsRow.holds Try.pinned (OpenSpec.ofChange forestTellsWrong)

/-- 'copselaw14.ForestPuts': WHATEVER THE INPUT: true; the input reads as it did. -/
def forestPutsSpec : ChangeSpec := { name := "forestPuts", fn := fun _ => fun
  | [d1, d2, d3] => { results := [.lit (.bool true)], args := [d1, d2, d3] }
  | _ => none }
def forestPutsRow : OpenClaim := { program := "ytdbonlpkmncggaa", sum := "7b5027b4edbf093d3f5df51031c316a62a00b3e7291383567d058be13289a912", func := "copse/copselaw14.ForestPuts", spec := "forestPuts", unfollowed := true, recurses := true, apart := false }
def ForestPutsSaid : Prop := forestPutsRow.holds Try.pinned (OpenSpec.ofChange forestPutsSpec)

/-- ITS FALSE NEIGHBOUR: 'it returns false'. Refute it at one input. -/
def forestPutsWrong : ChangeSpec := { name := "forestPuts", fn := fun _ => fun
  | [d1, d2, d3] => { results := [.lit (.bool false)], args := [d1, d2, d3] }
  | _ => none }
def ForestPutsWrongFalsely : Prop := forestPutsRow.holds Try.pinned (OpenSpec.ofChange forestPutsWrong)

/-- 'copselaw14.ForestScores': WHATEVER THE INPUT: true; the input reads as it did. -/
def forestScoresSpec : ChangeSpec := { name := "forestScores", fn := fun _ => fun
  | [d1, d2] => { results := [.lit (.bool true)], args := [d1, d2] }
  | _ => none }
def forestScoresRow : OpenClaim := { program := "ytdbonlpkmncggaa", sum := "7b5027b4edbf093d3f5df51031c316a62a00b3e7291383567d058be13289a912", func := "copse/copselaw14.ForestScores", spec := "forestScores", unfollowed := true, recurses := true, apart := false }
def ForestScoresSaid : Prop := forestScoresRow.holds Try.pinned (OpenSpec.ofChange forestScoresSpec)

/-- ITS FALSE NEIGHBOUR: 'it returns false'. Refute it at one input. -/
def forestScoresWrong : ChangeSpec := { name := "forestScores", fn := fun _ => fun
  | [d1, d2] => { results := [.lit (.bool false)], args := [d1, d2] }
  | _ => none }
def ForestScoresWrongFalsely : Prop := forestScoresRow.holds Try.pinned (OpenSpec.ofChange forestScoresWrong)

/-- 'copselaw23.WoodTrees': WHATEVER THE INPUT: true; the input reads as it did. -/
def woodTreesSpec : ChangeSpec := { name := "woodTrees", fn := fun _ => fun
  | [d1, d2] => { results := [.lit (.bool true)], args := [d1, d2] }
  | _ => none }
def woodTreesRow : OpenClaim := { program := "ytdbonlpkmncggaa", sum := "7b5027b4edbf093d3f5df51031c316a62a00b3e7291383567d058be13289a912", func := "copse/copselaw23.WoodTrees", spec := "woodTrees", unfollowed := true, recurses := true, apart := false }
def WoodTreesSaid : Prop := woodTreesRow.holds Try.pinned (OpenSpec.ofChange woodTreesSpec)

/-- ITS FALSE NEIGHBOUR: 'it returns false'. Refute it at one input. -/
def woodTreesWrong : ChangeSpec := { name := "woodTrees", fn := fun _ => fun
  | [d1, d2] => { results := [.lit (.bool false)], args := [d1, d2] }
  | _ => none }
def WoodTreesWrongFalsely : Prop := woodTreesRow.holds Try.pinned (OpenSpec.ofChange woodTreesWrong)

/-- 'copselaw23.WoodReads': WHATEVER THE INPUT: true; the input reads as it did. -/
def woodReadsSpec : ChangeSpec := { name := "woodReads", fn := fun _ => fun
  | [d] => { results := [.lit (.bool true)], args := [d] }
  | _ => none }
def woodReadsRow : OpenClaim := { program := "ytdbonlpkmncggaa", sum := "7b5027b4edbf093d3f5df51031c316a62a00b3e7291383567d058be13289a912", func := "copse/copselaw23.WoodReads", spec := "woodReads", unfollowed := true, recurses := true, apart := false }
def WoodReadsSaid : Prop := woodReadsRow.holds Try.pinned (OpenSpec.ofChange woodReadsSpec)

/-- ITS FALSE NEIGHBOUR: 'it returns false'. Refute it at one input. -/
def woodReadsWrong : ChangeSpec := { name := "woodReads", fn := fun _ => fun
  | [d] => { results := [.lit (.bool false)], args := [d] }
  | _ => none }
def WoodReadsWrongFalsely : Prop := woodReadsRow.holds Try.pinned (OpenSpec.ofChange woodReadsWrong)

/-- 'copselaw23.WoodForests': WHATEVER THE INPUT: true; the input reads as it did. -/
def woodForestsSpec : ChangeSpec := { name := "woodForests", fn := fun _ => fun
  | [d1, d2] => { results := [.lit (.bool true)], args := [d1, d2] }
  | _ => none }
def woodForestsRow : OpenClaim := { program := "ytdbonlpkmncggaa", sum := "7b5027b4edbf093d3f5df51031c316a62a00b3e7291383567d058be13289a912", func := "copse/copselaw23.WoodForests", spec := "woodForests", unfollowed := true, recurses := true, apart := false }
def WoodForestsSaid : Prop := woodForestsRow.holds Try.pinned (OpenSpec.ofChange woodForestsSpec)

/-- ITS FALSE NEIGHBOUR: 'it returns false'. Refute it at one input. -/
def woodForestsWrong : ChangeSpec := { name := "woodForests", fn := fun _ => fun
  | [d1, d2] => { results := [.lit (.bool false)], args := [d1, d2] }
  | _ => none }
def WoodForestsWrongFalsely : Prop := woodForestsRow.holds Try.pinned (OpenSpec.ofChange woodForestsWrong)

/- THE SECOND FORM. 'bulk': how many values and letters a reading holds, each counted each time it is reached (what is shared counts as often as it is met; a slice's spare places count too). A statement '..UptoSaid' is the law's where the arguments, and the package variables that the reading takes, are together of bulk at most 1048576: NARROWER than '..Said'. Prove '..Said' where nothing that the law and all that it calls make is longer than what came in: it says more and counts as full. Else prove '..UptoSaid'. A law counts once. -/
mutual
def uptoBulk {H : Type} : DataW H → Nat
  | .lit (.string bytes) => bytes.length + 1
  | .lit _ => 1
  | .nil => 1
  | .ptr d => uptoBulk d + 1
  | .slice elems spare => uptoBulkAll elems + uptoBulkAll spare + 1
  | .agg parts => uptoBulkAll parts + 1
  | .iface _ d => uptoBulk d + 1
  | .map entries => uptoBulkEntries entries + 1
  | .held _ => 1
def uptoBulkAll {H : Type} : List (DataW H) → Nat
  | [] => 0
  | d :: r => uptoBulk d + uptoBulkAll r
def uptoBulkEntries {H : Type} : List (Lit × DataW H) → Nat
  | [] => 0
  | x :: r => uptoBulkEntry x + uptoBulkEntries r
def uptoBulkEntry {H : Type} : Lit × DataW H → Nat
  | (.string bytes, d) => bytes.length + uptoBulk d + 1
  | (_, d) => uptoBulk d + 1
 end
def uptoSmall : (H : Type) → List (DataW H) → Bool := fun _ ds => decide (uptoBulkAll ds ≤ 1048576)
def OpenSpec.upto (s : _root_.Go.ChangeSpec) : _root_.Go.OpenSpec := { _root_.Go.OpenSpec.ofChange s with cond := some uptoSmall }

/-- 'copselaw14.ForestTells', WHERE WHAT IT READS IS OF BULK AT MOST 1048576: true; the input reads as it did. -/
def forestTellsUptoRow : OpenClaim := { program := "ytdbonlpkmncggaa", sum := "7b5027b4edbf093d3f5df51031c316a62a00b3e7291383567d058be13289a912", func := "copse/copselaw14.ForestTells", spec := "forestTells", unfollowed := true, recurses := true, apart := false, narrowed := true }
def ForestTellsUptoSaid : Prop := forestTellsUptoRow.holds Try.pinned (OpenSpec.upto forestTellsSpec)

/-- 'copselaw14.ForestPuts', WHERE WHAT IT READS IS OF BULK AT MOST 1048576: true; the input reads as it did. -/
def forestPutsUptoRow : OpenClaim := { program := "ytdbonlpkmncggaa", sum := "7b5027b4edbf093d3f5df51031c316a62a00b3e7291383567d058be13289a912", func := "copse/copselaw14.ForestPuts", spec := "forestPuts", unfollowed := true, recurses := true, apart := false, narrowed := true }
def ForestPutsUptoSaid : Prop := forestPutsUptoRow.holds Try.pinned (OpenSpec.upto forestPutsSpec)

/-- 'copselaw14.ForestScores', WHERE WHAT IT READS IS OF BULK AT MOST 1048576: true; the input reads as it did. -/
def forestScoresUptoRow : OpenClaim := { program := "ytdbonlpkmncggaa", sum := "7b5027b4edbf093d3f5df51031c316a62a00b3e7291383567d058be13289a912", func := "copse/copselaw14.ForestScores", spec := "forestScores", unfollowed := true, recurses := true, apart := false, narrowed := true }
def ForestScoresUptoSaid : Prop := forestScoresUptoRow.holds Try.pinned (OpenSpec.upto forestScoresSpec)

/-- 'copselaw23.WoodTrees', WHERE WHAT IT READS IS OF BULK AT MOST 1048576: true; the input reads as it did. -/
def woodTreesUptoRow : OpenClaim := { program := "ytdbonlpkmncggaa", sum := "7b5027b4edbf093d3f5df51031c316a62a00b3e7291383567d058be13289a912", func := "copse/copselaw23.WoodTrees", spec := "woodTrees", unfollowed := true, recurses := true, apart := false, narrowed := true }
def WoodTreesUptoSaid : Prop := woodTreesUptoRow.holds Try.pinned (OpenSpec.upto woodTreesSpec)

/-- 'copselaw23.WoodReads', WHERE WHAT IT READS IS OF BULK AT MOST 1048576: true; the input reads as it did. -/
def woodReadsUptoRow : OpenClaim := { program := "ytdbonlpkmncggaa", sum := "7b5027b4edbf093d3f5df51031c316a62a00b3e7291383567d058be13289a912", func := "copse/copselaw23.WoodReads", spec := "woodReads", unfollowed := true, recurses := true, apart := false, narrowed := true }
def WoodReadsUptoSaid : Prop := woodReadsUptoRow.holds Try.pinned (OpenSpec.upto woodReadsSpec)

/-- 'copselaw23.WoodForests', WHERE WHAT IT READS IS OF BULK AT MOST 1048576: true; the input reads as it did. -/
def woodForestsUptoRow : OpenClaim := { program := "ytdbonlpkmncggaa", sum := "7b5027b4edbf093d3f5df51031c316a62a00b3e7291383567d058be13289a912", func := "copse/copselaw23.WoodForests", spec := "woodForests", unfollowed := true, recurses := true, apart := false, narrowed := true }
def WoodForestsUptoSaid : Prop := woodForestsUptoRow.holds Try.pinned (OpenSpec.upto woodForestsSpec)

end Rows
end Go.Proofs.Ytdbonlpkmncggaa
