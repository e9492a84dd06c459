/-
  No cell of these rows narrows 'for every input' (looked for: loops, veiled, ifaces, maps, wideKeys, modest, calm, conditions, laid).
  DERIVED. THE GIVEN ROWS OF THIS SEAT. 12 by the template 'for every input the law returns true; each argument reads behind the call as it read before'; 0 by the template 'total and deterministic' (their statements: YticpmcghdoiceaaTotals.lean).
  GIVEN WITH THE SEED: the statements are not yours to turn. If you find one false, say at which input.
  Laid BY PROGRAM, IN A SANDBOX (cutbox-rows.mjs): the forced cells as the released guide's own fill.sh prints them over the translation cd82d12c56405dc9… (all of the seat's roots in one cut). By AI agents, Wed Nov 11 2026. No macro, syntax, notation, axiom, sorry.
-/
import Derived.Test.YticpmcghdoiceaaChecked
import GoSem.Claim
import GoSem.ClaimJoined
import GoSem.ClaimMapViews
import Derived.JoinedTies
import Derived.KernelRfl
namespace Go.Proofs.Yticpmcghdoiceaa
/- THE CELL 'sum', in the pinned program and in every row, IS THE sha256 OF THE DUMP (.gsa) THAT YticpmcghdoiceaaProg.lean LOADS. Nothing in Lean hashes anything: it is a label: what it is worth is what the hold of that sum in a sandbox is worth. -/
noncomputable def Try.pinned : Pinned := { name := "yticpmcghdoiceaa", sum := "cd82d12c56405dc94ac56f6c96c24fcd1d1cb3b8aee32eaf05262c1902e00933", checked := Try.checked }
namespace Rows
def none {H : Type} : Left H := { results := [], args := [] }

/-- 'copselaw02.WideDivides': WHATEVER THE INPUT: true; the input reads as it did. -/
def wideDividesSpec : ChangeSpec := { name := "wideDivides", fn := fun _ => fun
  | [d1, d2] => { results := [.lit (.bool true)], args := [d1, d2] }
  | _ => none }
def wideDividesRow : OpenClaim := { program := "yticpmcghdoiceaa", sum := "cd82d12c56405dc94ac56f6c96c24fcd1d1cb3b8aee32eaf05262c1902e00933", func := "copse/copselaw02.WideDivides", spec := "wideDivides", inPlace := ["math/bits.Add64", "internal/abi.NoEscape"], named := ["math/bits.divideError", "math/bits.overflowError"], apart := false }
def WideDividesSaid : Prop := wideDividesRow.holds Try.pinned (OpenSpec.ofChange wideDividesSpec)

/-- ITS FALSE NEIGHBOUR: 'it returns false'. Refute it at one input. -/
def wideDividesWrong : ChangeSpec := { name := "wideDivides", fn := fun _ => fun
  | [d1, d2] => { results := [.lit (.bool false)], args := [d1, d2] }
  | _ => none }
def WideDividesWrongFalsely : Prop := wideDividesRow.holds Try.pinned (OpenSpec.ofChange wideDividesWrong)

/-- 'copselaw02.WideRoots': WHATEVER THE INPUT: true; the input reads as it did. -/
def wideRootsSpec : ChangeSpec := { name := "wideRoots", fn := fun _ => fun
  | [d] => { results := [.lit (.bool true)], args := [d] }
  | _ => none }
def wideRootsRow : OpenClaim := { program := "yticpmcghdoiceaa", sum := "cd82d12c56405dc94ac56f6c96c24fcd1d1cb3b8aee32eaf05262c1902e00933", func := "copse/copselaw02.WideRoots", spec := "wideRoots", inPlace := ["math/bits.Add64", "internal/abi.NoEscape"], named := ["math/bits.divideError", "math/bits.overflowError"], apart := false }
def WideRootsSaid : Prop := wideRootsRow.holds Try.pinned (OpenSpec.ofChange wideRootsSpec)

/-- ITS FALSE NEIGHBOUR: 'it returns false'. Refute it at one input. -/
def wideRootsWrong : ChangeSpec := { name := "wideRoots", fn := fun _ => fun
  | [d] => { results := [.lit (.bool false)], args := [d] }
  | _ => none }
def WideRootsWrongFalsely : Prop := wideRootsRow.holds Try.pinned (OpenSpec.ofChange wideRootsWrong)

/-- 'copselaw02.WideTexts': WHATEVER THE INPUT: true; the input reads as it did. -/
def wideTextsSpec : ChangeSpec := { name := "wideTexts", fn := fun _ => fun
  | [d1, d2] => { results := [.lit (.bool true)], args := [d1, d2] }
  | _ => none }
def wideTextsRow : OpenClaim := { program := "yticpmcghdoiceaa", sum := "cd82d12c56405dc94ac56f6c96c24fcd1d1cb3b8aee32eaf05262c1902e00933", func := "copse/copselaw02.WideTexts", spec := "wideTexts", inPlace := ["math/bits.Add64", "internal/abi.NoEscape"], named := ["math/bits.divideError", "math/bits.overflowError"], apart := false }
def WideTextsSaid : Prop := wideTextsRow.holds Try.pinned (OpenSpec.ofChange wideTextsSpec)

/-- ITS FALSE NEIGHBOUR: 'it returns false'. Refute it at one input. -/
def wideTextsWrong : ChangeSpec := { name := "wideTexts", fn := fun _ => fun
  | [d1, d2] => { results := [.lit (.bool false)], args := [d1, d2] }
  | _ => none }
def WideTextsWrongFalsely : Prop := wideTextsRow.holds Try.pinned (OpenSpec.ofChange wideTextsWrong)

/-- 'copselaw02.WideProds': WHATEVER THE INPUT: true; the input reads as it did. -/
def wideProdsSpec : ChangeSpec := { name := "wideProds", fn := fun _ => fun
  | [d1, d2, d3, d4] => { results := [.lit (.bool true)], args := [d1, d2, d3, d4] }
  | _ => none }
def wideProdsRow : OpenClaim := { program := "yticpmcghdoiceaa", sum := "cd82d12c56405dc94ac56f6c96c24fcd1d1cb3b8aee32eaf05262c1902e00933", func := "copse/copselaw02.WideProds", spec := "wideProds", inPlace := ["math/bits.Add64", "internal/abi.NoEscape"], named := ["math/bits.divideError", "math/bits.overflowError"], apart := false }
def WideProdsSaid : Prop := wideProdsRow.holds Try.pinned (OpenSpec.ofChange wideProdsSpec)

/-- ITS FALSE NEIGHBOUR: 'it returns false'. Refute it at one input. -/
def wideProdsWrong : ChangeSpec := { name := "wideProds", fn := fun _ => fun
  | [d1, d2, d3, d4] => { results := [.lit (.bool false)], args := [d1, d2, d3, d4] }
  | _ => none }
def WideProdsWrongFalsely : Prop := wideProdsRow.holds Try.pinned (OpenSpec.ofChange wideProdsWrong)

/-- 'copselaw02.WideTwo': WHATEVER THE INPUT: true; the input reads as it did. -/
def wideTwoSpec : ChangeSpec := { name := "wideTwo", fn := fun _ => fun
  | [d1, d2, d3, d4] => { results := [.lit (.bool true)], args := [d1, d2, d3, d4] }
  | _ => none }
def wideTwoRow : OpenClaim := { program := "yticpmcghdoiceaa", sum := "cd82d12c56405dc94ac56f6c96c24fcd1d1cb3b8aee32eaf05262c1902e00933", func := "copse/copselaw02.WideTwo", spec := "wideTwo", inPlace := ["math/bits.Add64", "internal/abi.NoEscape", "math/bits.Sub64"], named := ["math/bits.divideError", "math/bits.overflowError"], apart := false }
def WideTwoSaid : Prop := wideTwoRow.holds Try.pinned (OpenSpec.ofChange wideTwoSpec)

/-- ITS FALSE NEIGHBOUR: 'it returns false'. Refute it at one input. -/
def wideTwoWrong : ChangeSpec := { name := "wideTwo", fn := fun _ => fun
  | [d1, d2, d3, d4] => { results := [.lit (.bool false)], args := [d1, d2, d3, d4] }
  | _ => none }
def WideTwoWrongFalsely : Prop := wideTwoRow.holds Try.pinned (OpenSpec.ofChange wideTwoWrong)

/-- 'copselaw12.PathTells': WHATEVER THE INPUT: true; the input reads as it did. -/
def pathTellsSpec : ChangeSpec := { name := "pathTells", fn := fun _ => fun
  | [d1, d2] => { results := [.lit (.bool true)], args := [d1, d2] }
  | _ => none }
def pathTellsRow : OpenClaim := { program := "yticpmcghdoiceaa", sum := "cd82d12c56405dc94ac56f6c96c24fcd1d1cb3b8aee32eaf05262c1902e00933", func := "copse/copselaw12.PathTells", spec := "pathTells", unfollowed := true, recurses := true, apart := false }
def PathTellsSaid : Prop := pathTellsRow.holds Try.pinned (OpenSpec.ofChange pathTellsSpec)

/-- ITS FALSE NEIGHBOUR: 'it returns false'. Refute it at one input. -/
def pathTellsWrong : ChangeSpec := { name := "pathTells", fn := fun _ => fun
  | [d1, d2] => { results := [.lit (.bool false)], args := [d1, d2] }
  | _ => none }
def PathTellsWrongFalsely : Prop := pathTellsRow.holds Try.pinned (OpenSpec.ofChange pathTellsWrong)

/-- 'copselaw12.PathEnds': WHATEVER THE INPUT: true; the input reads as it did. -/
def pathEndsSpec : ChangeSpec := { name := "pathEnds", fn := fun _ => fun
  | [d1, d2] => { results := [.lit (.bool true)], args := [d1, d2] }
  | _ => none }
def pathEndsRow : OpenClaim := { program := "yticpmcghdoiceaa", sum := "cd82d12c56405dc94ac56f6c96c24fcd1d1cb3b8aee32eaf05262c1902e00933", func := "copse/copselaw12.PathEnds", spec := "pathEnds", unfollowed := true, recurses := true, apart := false }
def PathEndsSaid : Prop := pathEndsRow.holds Try.pinned (OpenSpec.ofChange pathEndsSpec)

/-- ITS FALSE NEIGHBOUR: 'it returns false'. Refute it at one input. -/
def pathEndsWrong : ChangeSpec := { name := "pathEnds", fn := fun _ => fun
  | [d1, d2] => { results := [.lit (.bool false)], args := [d1, d2] }
  | _ => none }
def PathEndsWrongFalsely : Prop := pathEndsRow.holds Try.pinned (OpenSpec.ofChange pathEndsWrong)

/-- 'copselaw12.PathSums': WHATEVER THE INPUT: true; the input reads as it did. -/
def pathSumsSpec : ChangeSpec := { name := "pathSums", fn := fun _ => fun
  | [d1, d2] => { results := [.lit (.bool true)], args := [d1, d2] }
  | _ => none }
def pathSumsRow : OpenClaim := { program := "yticpmcghdoiceaa", sum := "cd82d12c56405dc94ac56f6c96c24fcd1d1cb3b8aee32eaf05262c1902e00933", func := "copse/copselaw12.PathSums", spec := "pathSums", unfollowed := true, recurses := true, apart := false }
def PathSumsSaid : Prop := pathSumsRow.holds Try.pinned (OpenSpec.ofChange pathSumsSpec)

/-- ITS FALSE NEIGHBOUR: 'it returns false'. Refute it at one input. -/
def pathSumsWrong : ChangeSpec := { name := "pathSums", fn := fun _ => fun
  | [d1, d2] => { results := [.lit (.bool false)], args := [d1, d2] }
  | _ => none }
def PathSumsWrongFalsely : Prop := pathSumsRow.holds Try.pinned (OpenSpec.ofChange pathSumsWrong)

/-- 'copselaw07.PickSamples': WHATEVER THE INPUT: true; the input reads as it did. -/
def pickSamplesSpec : ChangeSpec := { name := "pickSamples", fn := fun _ => fun
  | [d1, d2, d3, d4, d5] => { results := [.lit (.bool true)], args := [d1, d2, d3, d4, d5] }
  | _ => none }
def pickSamplesRow : OpenClaim := { program := "yticpmcghdoiceaa", sum := "cd82d12c56405dc94ac56f6c96c24fcd1d1cb3b8aee32eaf05262c1902e00933", func := "copse/copselaw07.PickSamples", spec := "pickSamples", unfollowed := true, recurses := true, named := ["math/bits.divideError", "math/bits.overflowError"], apart := false }
def PickSamplesSaid : Prop := pickSamplesRow.holds Try.pinned (OpenSpec.ofChange pickSamplesSpec)

/-- ITS FALSE NEIGHBOUR: 'it returns false'. Refute it at one input. -/
def pickSamplesWrong : ChangeSpec := { name := "pickSamples", fn := fun _ => fun
  | [d1, d2, d3, d4, d5] => { results := [.lit (.bool false)], args := [d1, d2, d3, d4, d5] }
  | _ => none }
def PickSamplesWrongFalsely : Prop := pickSamplesRow.holds Try.pinned (OpenSpec.ofChange pickSamplesWrong)

/-- 'copselaw07.PickBack': WHATEVER THE INPUT: true; the input reads as it did. -/
def pickBackSpec : ChangeSpec := { name := "pickBack", fn := fun _ => fun
  | [d1, d2, d3] => { results := [.lit (.bool true)], args := [d1, d2, d3] }
  | _ => none }
def pickBackRow : OpenClaim := { program := "yticpmcghdoiceaa", sum := "cd82d12c56405dc94ac56f6c96c24fcd1d1cb3b8aee32eaf05262c1902e00933", func := "copse/copselaw07.PickBack", spec := "pickBack", unfollowed := true, recurses := true, named := ["math/bits.divideError", "math/bits.overflowError"], apart := false }
def PickBackSaid : Prop := pickBackRow.holds Try.pinned (OpenSpec.ofChange pickBackSpec)

/-- ITS FALSE NEIGHBOUR: 'it returns false'. Refute it at one input. -/
def pickBackWrong : ChangeSpec := { name := "pickBack", fn := fun _ => fun
  | [d1, d2, d3] => { results := [.lit (.bool false)], args := [d1, d2, d3] }
  | _ => none }
def PickBackWrongFalsely : Prop := pickBackRow.holds Try.pinned (OpenSpec.ofChange pickBackWrong)

/-- 'copselaw07.PickCoefs': WHATEVER THE INPUT: true; the input reads as it did. -/
def pickCoefsSpec : ChangeSpec := { name := "pickCoefs", fn := fun _ => fun
  | [d1, d2, d3, d4] => { results := [.lit (.bool true)], args := [d1, d2, d3, d4] }
  | _ => none }
def pickCoefsRow : OpenClaim := { program := "yticpmcghdoiceaa", sum := "cd82d12c56405dc94ac56f6c96c24fcd1d1cb3b8aee32eaf05262c1902e00933", func := "copse/copselaw07.PickCoefs", spec := "pickCoefs", unfollowed := true, recurses := true, named := ["math/bits.divideError", "math/bits.overflowError"], apart := false }
def PickCoefsSaid : Prop := pickCoefsRow.holds Try.pinned (OpenSpec.ofChange pickCoefsSpec)

/-- ITS FALSE NEIGHBOUR: 'it returns false'. Refute it at one input. -/
def pickCoefsWrong : ChangeSpec := { name := "pickCoefs", fn := fun _ => fun
  | [d1, d2, d3, d4] => { results := [.lit (.bool false)], args := [d1, d2, d3, d4] }
  | _ => none }
def PickCoefsWrongFalsely : Prop := pickCoefsRow.holds Try.pinned (OpenSpec.ofChange pickCoefsWrong)

/-- 'copselaw07.PickWeighs': WHATEVER THE INPUT: true; the input reads as it did. -/
def pickWeighsSpec : ChangeSpec := { name := "pickWeighs", fn := fun _ => fun
  | [d1, d2, d3, d4] => { results := [.lit (.bool true)], args := [d1, d2, d3, d4] }
  | _ => none }
def pickWeighsRow : OpenClaim := { program := "yticpmcghdoiceaa", sum := "cd82d12c56405dc94ac56f6c96c24fcd1d1cb3b8aee32eaf05262c1902e00933", func := "copse/copselaw07.PickWeighs", spec := "pickWeighs", unfollowed := true, recurses := true, named := ["math/bits.divideError", "math/bits.overflowError"], apart := false }
def PickWeighsSaid : Prop := pickWeighsRow.holds Try.pinned (OpenSpec.ofChange pickWeighsSpec)

/-- ITS FALSE NEIGHBOUR: 'it returns false'. Refute it at one input. -/
def pickWeighsWrong : ChangeSpec := { name := "pickWeighs", fn := fun _ => fun
  | [d1, d2, d3, d4] => { results := [.lit (.bool false)], args := [d1, d2, d3, d4] }
  | _ => none }
def PickWeighsWrongFalsely : Prop := pickWeighsRow.holds Try.pinned (OpenSpec.ofChange pickWeighsWrong)

/- THE SECOND FORM. 'bulk': how many values and letters a reading holds, each counted each time it is reached (what is shared counts as often as it is met; a slice's spare places count too). A statement '..UptoSaid' is the law's where the arguments, and the package variables that the reading takes, are together of bulk at most 1048576: NARROWER than '..Said'. Prove '..Said' where nothing that the law and all that it calls make is longer than what came in: it says more and counts as full. Else prove '..UptoSaid'. A law counts once. -/
mutual
def uptoBulk {H : Type} : DataW H → Nat
  | .lit (.string bytes) => bytes.length + 1
  | .lit _ => 1
  | .nil => 1
  | .ptr d => uptoBulk d + 1
  | .slice elems spare => uptoBulkAll elems + uptoBulkAll spare + 1
  | .agg parts => uptoBulkAll parts + 1
  | .iface _ d => uptoBulk d + 1
  | .map entries => uptoBulkEntries entries + 1
  | .held _ => 1
def uptoBulkAll {H : Type} : List (DataW H) → Nat
  | [] => 0
  | d :: r => uptoBulk d + uptoBulkAll r
def uptoBulkEntries {H : Type} : List (Lit × DataW H) → Nat
  | [] => 0
  | x :: r => uptoBulkEntry x + uptoBulkEntries r
def uptoBulkEntry {H : Type} : Lit × DataW H → Nat
  | (.string bytes, d) => bytes.length + uptoBulk d + 1
  | (_, d) => uptoBulk d + 1
 end
def uptoSmall : (H : Type) → List (DataW H) → Bool := fun _ ds => decide (uptoBulkAll ds ≤ 1048576)
def OpenSpec.upto (s : _root_.Go.ChangeSpec) : _root_.Go.OpenSpec := { _root_.Go.OpenSpec.ofChange s with cond := some uptoSmall }

/-- 'copselaw02.WideDivides', WHERE WHAT IT READS IS OF BULK AT MOST 1048576: true; the input reads as it did. -/
def wideDividesUptoRow : OpenClaim := { program := "yticpmcghdoiceaa", sum := "cd82d12c56405dc94ac56f6c96c24fcd1d1cb3b8aee32eaf05262c1902e00933", func := "copse/copselaw02.WideDivides", spec := "wideDivides", inPlace := ["math/bits.Add64", "internal/abi.NoEscape"], named := ["math/bits.divideError", "math/bits.overflowError"], apart := false, narrowed := true }
def WideDividesUptoSaid : Prop := wideDividesUptoRow.holds Try.pinned (OpenSpec.upto wideDividesSpec)

/-- 'copselaw02.WideRoots', WHERE WHAT IT READS IS OF BULK AT MOST 1048576: true; the input reads as it did. -/
def wideRootsUptoRow : OpenClaim := { program := "yticpmcghdoiceaa", sum := "cd82d12c56405dc94ac56f6c96c24fcd1d1cb3b8aee32eaf05262c1902e00933", func := "copse/copselaw02.WideRoots", spec := "wideRoots", inPlace := ["math/bits.Add64", "internal/abi.NoEscape"], named := ["math/bits.divideError", "math/bits.overflowError"], apart := false, narrowed := true }
def WideRootsUptoSaid : Prop := wideRootsUptoRow.holds Try.pinned (OpenSpec.upto wideRootsSpec)

/-- 'copselaw02.WideTexts', WHERE WHAT IT READS IS OF BULK AT MOST 1048576: true; the input reads as it did. -/
def wideTextsUptoRow : OpenClaim := { program := "yticpmcghdoiceaa", sum := "cd82d12c56405dc94ac56f6c96c24fcd1d1cb3b8aee32eaf05262c1902e00933", func := "copse/copselaw02.WideTexts", spec := "wideTexts", inPlace := ["math/bits.Add64", "internal/abi.NoEscape"], named := ["math/bits.divideError", "math/bits.overflowError"], apart := false, narrowed := true }
def WideTextsUptoSaid : Prop := wideTextsUptoRow.holds Try.pinned (OpenSpec.upto wideTextsSpec)

/-- 'copselaw02.WideProds', WHERE WHAT IT READS IS OF BULK AT MOST 1048576: true; the input reads as it did. -/
def wideProdsUptoRow : OpenClaim := { program := "yticpmcghdoiceaa", sum := "cd82d12c56405dc94ac56f6c96c24fcd1d1cb3b8aee32eaf05262c1902e00933", func := "copse/copselaw02.WideProds", spec := "wideProds", inPlace := ["math/bits.Add64", "internal/abi.NoEscape"], named := ["math/bits.divideError", "math/bits.overflowError"], apart := false, narrowed := true }
def WideProdsUptoSaid : Prop := wideProdsUptoRow.holds Try.pinned (OpenSpec.upto wideProdsSpec)

/-- 'copselaw02.WideTwo', WHERE WHAT IT READS IS OF BULK AT MOST 1048576: true; the input reads as it did. -/
def wideTwoUptoRow : OpenClaim := { program := "yticpmcghdoiceaa", sum := "cd82d12c56405dc94ac56f6c96c24fcd1d1cb3b8aee32eaf05262c1902e00933", func := "copse/copselaw02.WideTwo", spec := "wideTwo", inPlace := ["math/bits.Add64", "internal/abi.NoEscape", "math/bits.Sub64"], named := ["math/bits.divideError", "math/bits.overflowError"], apart := false, narrowed := true }
def WideTwoUptoSaid : Prop := wideTwoUptoRow.holds Try.pinned (OpenSpec.upto wideTwoSpec)

/-- 'copselaw12.PathTells', WHERE WHAT IT READS IS OF BULK AT MOST 1048576: true; the input reads as it did. -/
def pathTellsUptoRow : OpenClaim := { program := "yticpmcghdoiceaa", sum := "cd82d12c56405dc94ac56f6c96c24fcd1d1cb3b8aee32eaf05262c1902e00933", func := "copse/copselaw12.PathTells", spec := "pathTells", unfollowed := true, recurses := true, apart := false, narrowed := true }
def PathTellsUptoSaid : Prop := pathTellsUptoRow.holds Try.pinned (OpenSpec.upto pathTellsSpec)

/-- 'copselaw12.PathEnds', WHERE WHAT IT READS IS OF BULK AT MOST 1048576: true; the input reads as it did. -/
def pathEndsUptoRow : OpenClaim := { program := "yticpmcghdoiceaa", sum := "cd82d12c56405dc94ac56f6c96c24fcd1d1cb3b8aee32eaf05262c1902e00933", func := "copse/copselaw12.PathEnds", spec := "pathEnds", unfollowed := true, recurses := true, apart := false, narrowed := true }
def PathEndsUptoSaid : Prop := pathEndsUptoRow.holds Try.pinned (OpenSpec.upto pathEndsSpec)

/-- 'copselaw12.PathSums', WHERE WHAT IT READS IS OF BULK AT MOST 1048576: true; the input reads as it did. -/
def pathSumsUptoRow : OpenClaim := { program := "yticpmcghdoiceaa", sum := "cd82d12c56405dc94ac56f6c96c24fcd1d1cb3b8aee32eaf05262c1902e00933", func := "copse/copselaw12.PathSums", spec := "pathSums", unfollowed := true, recurses := true, apart := false, narrowed := true }
def PathSumsUptoSaid : Prop := pathSumsUptoRow.holds Try.pinned (OpenSpec.upto pathSumsSpec)

/-- 'copselaw07.PickSamples', WHERE WHAT IT READS IS OF BULK AT MOST 1048576: true; the input reads as it did. -/
def pickSamplesUptoRow : OpenClaim := { program := "yticpmcghdoiceaa", sum := "cd82d12c56405dc94ac56f6c96c24fcd1d1cb3b8aee32eaf05262c1902e00933", func := "copse/copselaw07.PickSamples", spec := "pickSamples", unfollowed := true, recurses := true, named := ["math/bits.divideError", "math/bits.overflowError"], apart := false, narrowed := true }
def PickSamplesUptoSaid : Prop := pickSamplesUptoRow.holds Try.pinned (OpenSpec.upto pickSamplesSpec)

/-- 'copselaw07.PickBack', WHERE WHAT IT READS IS OF BULK AT MOST 1048576: true; the input reads as it did. -/
def pickBackUptoRow : OpenClaim := { program := "yticpmcghdoiceaa", sum := "cd82d12c56405dc94ac56f6c96c24fcd1d1cb3b8aee32eaf05262c1902e00933", func := "copse/copselaw07.PickBack", spec := "pickBack", unfollowed := true, recurses := true, named := ["math/bits.divideError", "math/bits.overflowError"], apart := false, narrowed := true }
def PickBackUptoSaid : Prop := pickBackUptoRow.holds Try.pinned (OpenSpec.upto pickBackSpec)

/-- 'copselaw07.PickCoefs', WHERE WHAT IT READS IS OF BULK AT MOST 1048576: true; the input reads as it did. -/
def pickCoefsUptoRow : OpenClaim := { program := "yticpmcghdoiceaa", sum := "cd82d12c56405dc94ac56f6c96c24fcd1d1cb3b8aee32eaf05262c1902e00933", func := "copse/copselaw07.PickCoefs", spec := "pickCoefs", unfollowed := true, recurses := true, named := ["math/bits.divideError", "math/bits.overflowError"], apart := false, narrowed := true }
def PickCoefsUptoSaid : Prop := pickCoefsUptoRow.holds Try.pinned (OpenSpec.upto pickCoefsSpec)

/-- 'copselaw07.PickWeighs', WHERE WHAT IT READS IS OF BULK AT MOST 1048576: true; the input reads as it did. -/
def pickWeighsUptoRow : OpenClaim := { program := "yticpmcghdoiceaa", sum := "cd82d12c56405dc94ac56f6c96c24fcd1d1cb3b8aee32eaf05262c1902e00933", func := "copse/copselaw07.PickWeighs", spec := "pickWeighs", unfollowed := true, recurses := true, named := ["math/bits.divideError", "math/bits.overflowError"], apart := false, narrowed := true }
def PickWeighsUptoSaid : Prop := pickWeighsUptoRow.holds Try.pinned (OpenSpec.upto pickWeighsSpec)

end Rows
end Go.Proofs.Yticpmcghdoiceaa
