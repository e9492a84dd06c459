/-
  No cell of these rows narrows 'for every input' (looked for: loops, veiled, ifaces, maps, wideKeys, modest, calm, conditions, laid).
  DERIVED. THE GIVEN ROWS OF THIS SEAT. 8 by the template 'for every input the law returns true; each argument reads behind the call as it read before'; 0 by the template 'total and deterministic' (their statements: YtoljilbldkbjpaaTotals.lean).
  GIVEN WITH THE SEED: the statements are not yours to turn. If you find one false, say at which input.
  Laid BY PROGRAM, IN A SANDBOX (cutbox-rows.mjs): the forced cells as the released guide's own fill.sh prints them over the translation 6326d6734a9db1c2… (all of the seat's roots in one cut). By AI agents, Wed Nov 11 2026. No macro, syntax, notation, axiom, sorry.
-/
import Derived.Test.YtoljilbldkbjpaaChecked
import GoSem.Claim
import GoSem.ClaimJoined
import GoSem.ClaimMapViews
import Derived.JoinedTies
import Derived.KernelRfl
namespace Go.Proofs.Ytoljilbldkbjpaa
/- THE CELL 'sum', in the pinned program and in every row, IS THE sha256 OF THE DUMP (.gsa) THAT YtoljilbldkbjpaaProg.lean LOADS. Nothing in Lean hashes anything: it is a label: what it is worth is what the hold of that sum in a sandbox is worth. -/
noncomputable def Try.pinned : Pinned := { name := "ytoljilbldkbjpaa", sum := "6326d6734a9db1c22e947e25d7bf996ec8c91050cc02e43c9242e3a61659dc60", checked := Try.checked }
namespace Rows
def none {H : Type} : Left H := { results := [], args := [] }

/-- 'copselaw07.PickSamples': WHATEVER THE INPUT: true; the input reads as it did. -/
def pickSamplesSpec : ChangeSpec := { name := "pickSamples", fn := fun _ => fun
  | [d1, d2, d3, d4, d5] => { results := [.lit (.bool true)], args := [d1, d2, d3, d4, d5] }
  | _ => none }
def pickSamplesRow : OpenClaim := { program := "ytoljilbldkbjpaa", sum := "6326d6734a9db1c22e947e25d7bf996ec8c91050cc02e43c9242e3a61659dc60", func := "copse/copselaw07.PickSamples", spec := "pickSamples", unfollowed := true, recurses := true, named := ["math/bits.divideError", "math/bits.overflowError"], apart := false }
def PickSamplesSaid : Prop := pickSamplesRow.holds Try.pinned (OpenSpec.ofChange pickSamplesSpec)

/-- ITS FALSE NEIGHBOUR: 'it returns false'. Refute it at one input. -/
def pickSamplesWrong : ChangeSpec := { name := "pickSamples", fn := fun _ => fun
  | [d1, d2, d3, d4, d5] => { results := [.lit (.bool false)], args := [d1, d2, d3, d4, d5] }
  | _ => none }
def PickSamplesWrongFalsely : Prop := pickSamplesRow.holds Try.pinned (OpenSpec.ofChange pickSamplesWrong)

/-- 'copselaw07.PickBack': WHATEVER THE INPUT: true; the input reads as it did. -/
def pickBackSpec : ChangeSpec := { name := "pickBack", fn := fun _ => fun
  | [d1, d2, d3] => { results := [.lit (.bool true)], args := [d1, d2, d3] }
  | _ => none }
def pickBackRow : OpenClaim := { program := "ytoljilbldkbjpaa", sum := "6326d6734a9db1c22e947e25d7bf996ec8c91050cc02e43c9242e3a61659dc60", func := "copse/copselaw07.PickBack", spec := "pickBack", unfollowed := true, recurses := true, named := ["math/bits.divideError", "math/bits.overflowError"], apart := false }
def PickBackSaid : Prop := pickBackRow.holds Try.pinned (OpenSpec.ofChange pickBackSpec)

/-- ITS FALSE NEIGHBOUR: 'it returns false'. Refute it at one input. -/
def pickBackWrong : ChangeSpec := { name := "pickBack", fn := fun _ => fun
  | [d1, d2, d3] => { results := [.lit (.bool false)], args := [d1, d2, d3] }
  | _ => none }
def PickBackWrongFalsely : Prop := pickBackRow.holds Try.pinned (OpenSpec.ofChange pickBackWrong)

/-- 'copselaw07.PickCoefs': WHATEVER THE INPUT: true; the input reads as it did. -/
def pickCoefsSpec : ChangeSpec := { name := "pickCoefs", fn := fun _ => fun
  | [d1, d2, d3, d4] => { results := [.lit (.bool true)], args := [d1, d2, d3, d4] }
  | _ => none }
def pickCoefsRow : OpenClaim := { program := "ytoljilbldkbjpaa", sum := "6326d6734a9db1c22e947e25d7bf996ec8c91050cc02e43c9242e3a61659dc60", func := "copse/copselaw07.PickCoefs", spec := "pickCoefs", unfollowed := true, recurses := true, named := ["math/bits.divideError", "math/bits.overflowError"], apart := false }
def PickCoefsSaid : Prop := pickCoefsRow.holds Try.pinned (OpenSpec.ofChange pickCoefsSpec)

/-- ITS FALSE NEIGHBOUR: 'it returns false'. Refute it at one input. -/
def pickCoefsWrong : ChangeSpec := { name := "pickCoefs", fn := fun _ => fun
  | [d1, d2, d3, d4] => { results := [.lit (.bool false)], args := [d1, d2, d3, d4] }
  | _ => none }
def PickCoefsWrongFalsely : Prop := pickCoefsRow.holds Try.pinned (OpenSpec.ofChange pickCoefsWrong)

/-- 'copselaw07.PickWeighs': WHATEVER THE INPUT: true; the input reads as it did. -/
def pickWeighsSpec : ChangeSpec := { name := "pickWeighs", fn := fun _ => fun
  | [d1, d2, d3, d4] => { results := [.lit (.bool true)], args := [d1, d2, d3, d4] }
  | _ => none }
def pickWeighsRow : OpenClaim := { program := "ytoljilbldkbjpaa", sum := "6326d6734a9db1c22e947e25d7bf996ec8c91050cc02e43c9242e3a61659dc60", func := "copse/copselaw07.PickWeighs", spec := "pickWeighs", unfollowed := true, recurses := true, named := ["math/bits.divideError", "math/bits.overflowError"], apart := false }
def PickWeighsSaid : Prop := pickWeighsRow.holds Try.pinned (OpenSpec.ofChange pickWeighsSpec)

/-- ITS FALSE NEIGHBOUR: 'it returns false'. Refute it at one input. -/
def pickWeighsWrong : ChangeSpec := { name := "pickWeighs", fn := fun _ => fun
  | [d1, d2, d3, d4] => { results := [.lit (.bool false)], args := [d1, d2, d3, d4] }
  | _ => none }
def PickWeighsWrongFalsely : Prop := pickWeighsRow.holds Try.pinned (OpenSpec.ofChange pickWeighsWrong)

/-- 'copselaw19.QuantPlaces': WHATEVER THE INPUT: true; the input reads as it did. -/
def quantPlacesSpec : ChangeSpec := { name := "quantPlaces", fn := fun _ => fun
  | [d1, d2, d3] => { results := [.lit (.bool true)], args := [d1, d2, d3] }
  | _ => none }
def quantPlacesRow : OpenClaim := { program := "ytoljilbldkbjpaa", sum := "6326d6734a9db1c22e947e25d7bf996ec8c91050cc02e43c9242e3a61659dc60", func := "copse/copselaw19.QuantPlaces", spec := "quantPlaces", unfollowed := true, recurses := true, apart := false }
def QuantPlacesSaid : Prop := quantPlacesRow.holds Try.pinned (OpenSpec.ofChange quantPlacesSpec)

/-- ITS FALSE NEIGHBOUR: 'it returns false'. Refute it at one input. -/
def quantPlacesWrong : ChangeSpec := { name := "quantPlaces", fn := fun _ => fun
  | [d1, d2, d3] => { results := [.lit (.bool false)], args := [d1, d2, d3] }
  | _ => none }
def QuantPlacesWrongFalsely : Prop := quantPlacesRow.holds Try.pinned (OpenSpec.ofChange quantPlacesWrong)

/-- 'copselaw19.QuantOvers': WHATEVER THE INPUT: true; the input reads as it did. -/
def quantOversSpec : ChangeSpec := { name := "quantOvers", fn := fun _ => fun
  | [d1, d2, d3] => { results := [.lit (.bool true)], args := [d1, d2, d3] }
  | _ => none }
def quantOversRow : OpenClaim := { program := "ytoljilbldkbjpaa", sum := "6326d6734a9db1c22e947e25d7bf996ec8c91050cc02e43c9242e3a61659dc60", func := "copse/copselaw19.QuantOvers", spec := "quantOvers", unfollowed := true, recurses := true, apart := false }
def QuantOversSaid : Prop := quantOversRow.holds Try.pinned (OpenSpec.ofChange quantOversSpec)

/-- ITS FALSE NEIGHBOUR: 'it returns false'. Refute it at one input. -/
def quantOversWrong : ChangeSpec := { name := "quantOvers", fn := fun _ => fun
  | [d1, d2, d3] => { results := [.lit (.bool false)], args := [d1, d2, d3] }
  | _ => none }
def QuantOversWrongFalsely : Prop := quantOversRow.holds Try.pinned (OpenSpec.ofChange quantOversWrong)

/-- 'copselaw19.QuantShares': WHATEVER THE INPUT: true; the input reads as it did. -/
def quantSharesSpec : ChangeSpec := { name := "quantShares", fn := fun _ => fun
  | [d1, d2, d3] => { results := [.lit (.bool true)], args := [d1, d2, d3] }
  | _ => none }
def quantSharesRow : OpenClaim := { program := "ytoljilbldkbjpaa", sum := "6326d6734a9db1c22e947e25d7bf996ec8c91050cc02e43c9242e3a61659dc60", func := "copse/copselaw19.QuantShares", spec := "quantShares", unfollowed := true, recurses := true, apart := false }
def QuantSharesSaid : Prop := quantSharesRow.holds Try.pinned (OpenSpec.ofChange quantSharesSpec)

/-- ITS FALSE NEIGHBOUR: 'it returns false'. Refute it at one input. -/
def quantSharesWrong : ChangeSpec := { name := "quantShares", fn := fun _ => fun
  | [d1, d2, d3] => { results := [.lit (.bool false)], args := [d1, d2, d3] }
  | _ => none }
def QuantSharesWrongFalsely : Prop := quantSharesRow.holds Try.pinned (OpenSpec.ofChange quantSharesWrong)

/-- 'copselaw19.QuantLines': WHATEVER THE INPUT: true; the input reads as it did. -/
def quantLinesSpec : ChangeSpec := { name := "quantLines", fn := fun _ => fun
  | [d1, d2, d3] => { results := [.lit (.bool true)], args := [d1, d2, d3] }
  | _ => none }
def quantLinesRow : OpenClaim := { program := "ytoljilbldkbjpaa", sum := "6326d6734a9db1c22e947e25d7bf996ec8c91050cc02e43c9242e3a61659dc60", func := "copse/copselaw19.QuantLines", spec := "quantLines", inPlace := ["slices.overlaps[copse/api.Score]", "slices.overlaps[[]copse/api.Score]"], unfollowed := true, recurses := true, apart := false }
def QuantLinesSaid : Prop := quantLinesRow.holds Try.pinned (OpenSpec.ofChange quantLinesSpec)

/-- ITS FALSE NEIGHBOUR: 'it returns false'. Refute it at one input. -/
def quantLinesWrong : ChangeSpec := { name := "quantLines", fn := fun _ => fun
  | [d1, d2, d3] => { results := [.lit (.bool false)], args := [d1, d2, d3] }
  | _ => none }
def QuantLinesWrongFalsely : Prop := quantLinesRow.holds Try.pinned (OpenSpec.ofChange quantLinesWrong)

/- THE SECOND FORM. 'bulk': how many values and letters a reading holds, each counted each time it is reached (what is shared counts as often as it is met; a slice's spare places count too). A statement '..UptoSaid' is the law's where the arguments, and the package variables that the reading takes, are together of bulk at most 1048576: NARROWER than '..Said'. Prove '..Said' where nothing that the law and all that it calls make is longer than what came in: it says more and counts as full. Else prove '..UptoSaid'. A law counts once. -/
mutual
def uptoBulk {H : Type} : DataW H → Nat
  | .lit (.string bytes) => bytes.length + 1
  | .lit _ => 1
  | .nil => 1
  | .ptr d => uptoBulk d + 1
  | .slice elems spare => uptoBulkAll elems + uptoBulkAll spare + 1
  | .agg parts => uptoBulkAll parts + 1
  | .iface _ d => uptoBulk d + 1
  | .map entries => uptoBulkEntries entries + 1
  | .held _ => 1
def uptoBulkAll {H : Type} : List (DataW H) → Nat
  | [] => 0
  | d :: r => uptoBulk d + uptoBulkAll r
def uptoBulkEntries {H : Type} : List (Lit × DataW H) → Nat
  | [] => 0
  | x :: r => uptoBulkEntry x + uptoBulkEntries r
def uptoBulkEntry {H : Type} : Lit × DataW H → Nat
  | (.string bytes, d) => bytes.length + uptoBulk d + 1
  | (_, d) => uptoBulk d + 1
 end
def uptoSmall : (H : Type) → List (DataW H) → Bool := fun _ ds => decide (uptoBulkAll ds ≤ 1048576)
def OpenSpec.upto (s : _root_.Go.ChangeSpec) : _root_.Go.OpenSpec := { _root_.Go.OpenSpec.ofChange s with cond := some uptoSmall }

/-- 'copselaw07.PickSamples', WHERE WHAT IT READS IS OF BULK AT MOST 1048576: true; the input reads as it did. -/
def pickSamplesUptoRow : OpenClaim := { program := "ytoljilbldkbjpaa", sum := "6326d6734a9db1c22e947e25d7bf996ec8c91050cc02e43c9242e3a61659dc60", func := "copse/copselaw07.PickSamples", spec := "pickSamples", unfollowed := true, recurses := true, named := ["math/bits.divideError", "math/bits.overflowError"], apart := false, narrowed := true }
def PickSamplesUptoSaid : Prop := pickSamplesUptoRow.holds Try.pinned (OpenSpec.upto pickSamplesSpec)

/-- 'copselaw07.PickBack', WHERE WHAT IT READS IS OF BULK AT MOST 1048576: true; the input reads as it did. -/
def pickBackUptoRow : OpenClaim := { program := "ytoljilbldkbjpaa", sum := "6326d6734a9db1c22e947e25d7bf996ec8c91050cc02e43c9242e3a61659dc60", func := "copse/copselaw07.PickBack", spec := "pickBack", unfollowed := true, recurses := true, named := ["math/bits.divideError", "math/bits.overflowError"], apart := false, narrowed := true }
def PickBackUptoSaid : Prop := pickBackUptoRow.holds Try.pinned (OpenSpec.upto pickBackSpec)

/-- 'copselaw07.PickCoefs', WHERE WHAT IT READS IS OF BULK AT MOST 1048576: true; the input reads as it did. -/
def pickCoefsUptoRow : OpenClaim := { program := "ytoljilbldkbjpaa", sum := "6326d6734a9db1c22e947e25d7bf996ec8c91050cc02e43c9242e3a61659dc60", func := "copse/copselaw07.PickCoefs", spec := "pickCoefs", unfollowed := true, recurses := true, named := ["math/bits.divideError", "math/bits.overflowError"], apart := false, narrowed := true }
def PickCoefsUptoSaid : Prop := pickCoefsUptoRow.holds Try.pinned (OpenSpec.upto pickCoefsSpec)

/-- 'copselaw07.PickWeighs', WHERE WHAT IT READS IS OF BULK AT MOST 1048576: true; the input reads as it did. -/
def pickWeighsUptoRow : OpenClaim := { program := "ytoljilbldkbjpaa", sum := "6326d6734a9db1c22e947e25d7bf996ec8c91050cc02e43c9242e3a61659dc60", func := "copse/copselaw07.PickWeighs", spec := "pickWeighs", unfollowed := true, recurses := true, named := ["math/bits.divideError", "math/bits.overflowError"], apart := false, narrowed := true }
def PickWeighsUptoSaid : Prop := pickWeighsUptoRow.holds Try.pinned (OpenSpec.upto pickWeighsSpec)

/-- 'copselaw19.QuantPlaces', WHERE WHAT IT READS IS OF BULK AT MOST 1048576: true; the input reads as it did. -/
def quantPlacesUptoRow : OpenClaim := { program := "ytoljilbldkbjpaa", sum := "6326d6734a9db1c22e947e25d7bf996ec8c91050cc02e43c9242e3a61659dc60", func := "copse/copselaw19.QuantPlaces", spec := "quantPlaces", unfollowed := true, recurses := true, apart := false, narrowed := true }
def QuantPlacesUptoSaid : Prop := quantPlacesUptoRow.holds Try.pinned (OpenSpec.upto quantPlacesSpec)

/-- 'copselaw19.QuantOvers', WHERE WHAT IT READS IS OF BULK AT MOST 1048576: true; the input reads as it did. -/
def quantOversUptoRow : OpenClaim := { program := "ytoljilbldkbjpaa", sum := "6326d6734a9db1c22e947e25d7bf996ec8c91050cc02e43c9242e3a61659dc60", func := "copse/copselaw19.QuantOvers", spec := "quantOvers", unfollowed := true, recurses := true, apart := false, narrowed := true }
def QuantOversUptoSaid : Prop := quantOversUptoRow.holds Try.pinned (OpenSpec.upto quantOversSpec)

/-- 'copselaw19.QuantShares', WHERE WHAT IT READS IS OF BULK AT MOST 1048576: true; the input reads as it did. -/
def quantSharesUptoRow : OpenClaim := { program := "ytoljilbldkbjpaa", sum := "6326d6734a9db1c22e947e25d7bf996ec8c91050cc02e43c9242e3a61659dc60", func := "copse/copselaw19.QuantShares", spec := "quantShares", unfollowed := true, recurses := true, apart := false, narrowed := true }
def QuantSharesUptoSaid : Prop := quantSharesUptoRow.holds Try.pinned (OpenSpec.upto quantSharesSpec)

/-- 'copselaw19.QuantLines', WHERE WHAT IT READS IS OF BULK AT MOST 1048576: true; the input reads as it did. -/
def quantLinesUptoRow : OpenClaim := { program := "ytoljilbldkbjpaa", sum := "6326d6734a9db1c22e947e25d7bf996ec8c91050cc02e43c9242e3a61659dc60", func := "copse/copselaw19.QuantLines", spec := "quantLines", inPlace := ["slices.overlaps[copse/api.Score]", "slices.overlaps[[]copse/api.Score]"], unfollowed := true, recurses := true, apart := false, narrowed := true }
def QuantLinesUptoSaid : Prop := quantLinesUptoRow.holds Try.pinned (OpenSpec.upto quantLinesSpec)

end Rows
end Go.Proofs.Ytoljilbldkbjpaa
