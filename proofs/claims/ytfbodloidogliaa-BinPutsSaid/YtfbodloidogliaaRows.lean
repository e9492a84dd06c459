/-
  No cell of these rows narrows 'for every input' (looked for: loops, veiled, ifaces, maps, wideKeys, modest, calm, conditions, laid).
  DERIVED. THE GIVEN ROWS OF THIS SEAT. 12 by the template 'for every input the law returns true; each argument reads behind the call as it read before'; 0 by the template 'total and deterministic' (their statements: YtfbodloidogliaaTotals.lean).
  GIVEN WITH THE SEED: the statements are not yours to turn. If you find one false, say at which input.
  Laid BY PROGRAM, IN A SANDBOX (cutbox-rows.mjs): the forced cells as the released guide's own fill.sh prints them over the translation cc8061f1ec7175c3… (all of the seat's roots in one cut). By AI agents, Wed Nov 11 2026. No macro, syntax, notation, axiom, sorry.
-/
import Derived.Test.YtfbodloidogliaaChecked
import GoSem.Claim
import GoSem.ClaimJoined
import GoSem.ClaimMapViews
import Derived.JoinedTies
import Derived.KernelRfl
namespace Go.Proofs.Ytfbodloidogliaa
/- THE CELL 'sum', in the pinned program and in every row, IS THE sha256 OF THE DUMP (.gsa) THAT YtfbodloidogliaaProg.lean LOADS. Nothing in Lean hashes anything: it is a label: what it is worth is what the hold of that sum in a sandbox is worth. -/
noncomputable def Try.pinned : Pinned := { name := "ytfbodloidogliaa", sum := "cc8061f1ec7175c3e73575e4493a065e2f17dbe38a9a2091094119e0b9fa2239", checked := Try.checked }
namespace Rows
def none {H : Type} : Left H := { results := [], args := [] }

/-- 'copselaw01.NumLists': WHATEVER THE INPUT: true; the input reads as it did. -/
def numListsSpec : ChangeSpec := { name := "numLists", fn := fun _ => fun
  | [d] => { results := [.lit (.bool true)], args := [d] }
  | _ => none }
def numListsRow : OpenClaim := { program := "ytfbodloidogliaa", sum := "cc8061f1ec7175c3e73575e4493a065e2f17dbe38a9a2091094119e0b9fa2239", func := "copse/copselaw01.NumLists", spec := "numLists", inPlace := ["math/bits.Add64"], apart := false }
def NumListsSaid : Prop := numListsRow.holds Try.pinned (OpenSpec.ofChange numListsSpec)

/-- ITS FALSE NEIGHBOUR: 'it returns false'. Refute it at one input. -/
def numListsWrong : ChangeSpec := { name := "numLists", fn := fun _ => fun
  | [d] => { results := [.lit (.bool false)], args := [d] }
  | _ => none }
def NumListsWrongFalsely : Prop := numListsRow.holds Try.pinned (OpenSpec.ofChange numListsWrong)

/-- 'copselaw01.NumDots': WHATEVER THE INPUT: true; the input reads as it did. -/
def numDotsSpec : ChangeSpec := { name := "numDots", fn := fun _ => fun
  | [d1, d2] => { results := [.lit (.bool true)], args := [d1, d2] }
  | _ => none }
def numDotsRow : OpenClaim := { program := "ytfbodloidogliaa", sum := "cc8061f1ec7175c3e73575e4493a065e2f17dbe38a9a2091094119e0b9fa2239", func := "copse/copselaw01.NumDots", spec := "numDots", inPlace := ["math/bits.Add64"], apart := false }
def NumDotsSaid : Prop := numDotsRow.holds Try.pinned (OpenSpec.ofChange numDotsSpec)

/-- ITS FALSE NEIGHBOUR: 'it returns false'. Refute it at one input. -/
def numDotsWrong : ChangeSpec := { name := "numDots", fn := fun _ => fun
  | [d1, d2] => { results := [.lit (.bool false)], args := [d1, d2] }
  | _ => none }
def NumDotsWrongFalsely : Prop := numDotsRow.holds Try.pinned (OpenSpec.ofChange numDotsWrong)

/-- 'copselaw01.NumSmall': WHATEVER THE INPUT: true; the input reads as it did. -/
def numSmallSpec : ChangeSpec := { name := "numSmall", fn := fun _ => fun
  | [d1, d2, d3, d4] => { results := [.lit (.bool true)], args := [d1, d2, d3, d4] }
  | _ => none }
def numSmallRow : OpenClaim := { program := "ytfbodloidogliaa", sum := "cc8061f1ec7175c3e73575e4493a065e2f17dbe38a9a2091094119e0b9fa2239", func := "copse/copselaw01.NumSmall", spec := "numSmall", inPlace := ["math/bits.Add64"], apart := false }
def NumSmallSaid : Prop := numSmallRow.holds Try.pinned (OpenSpec.ofChange numSmallSpec)

/-- ITS FALSE NEIGHBOUR: 'it returns false'. Refute it at one input. -/
def numSmallWrong : ChangeSpec := { name := "numSmall", fn := fun _ => fun
  | [d1, d2, d3, d4] => { results := [.lit (.bool false)], args := [d1, d2, d3, d4] }
  | _ => none }
def NumSmallWrongFalsely : Prop := numSmallRow.holds Try.pinned (OpenSpec.ofChange numSmallWrong)

/-- 'copselaw01.NumDivides': WHATEVER THE INPUT: true; the input reads as it did. -/
def numDividesSpec : ChangeSpec := { name := "numDivides", fn := fun _ => fun
  | [d1, d2] => { results := [.lit (.bool true)], args := [d1, d2] }
  | _ => none }
def numDividesRow : OpenClaim := { program := "ytfbodloidogliaa", sum := "cc8061f1ec7175c3e73575e4493a065e2f17dbe38a9a2091094119e0b9fa2239", func := "copse/copselaw01.NumDivides", spec := "numDivides", inPlace := ["math/bits.Add64"], apart := false }
def NumDividesSaid : Prop := numDividesRow.holds Try.pinned (OpenSpec.ofChange numDividesSpec)

/-- ITS FALSE NEIGHBOUR: 'it returns false'. Refute it at one input. -/
def numDividesWrong : ChangeSpec := { name := "numDivides", fn := fun _ => fun
  | [d1, d2] => { results := [.lit (.bool false)], args := [d1, d2] }
  | _ => none }
def NumDividesWrongFalsely : Prop := numDividesRow.holds Try.pinned (OpenSpec.ofChange numDividesWrong)

/-- 'copselaw06.DrawNexts': WHATEVER THE INPUT: true; the input reads as it did. -/
def drawNextsSpec : ChangeSpec := { name := "drawNexts", fn := fun _ => fun
  | [d1, d2, d3] => { results := [.lit (.bool true)], args := [d1, d2, d3] }
  | _ => none }
def drawNextsRow : OpenClaim := { program := "ytfbodloidogliaa", sum := "cc8061f1ec7175c3e73575e4493a065e2f17dbe38a9a2091094119e0b9fa2239", func := "copse/copselaw06.DrawNexts", spec := "drawNexts", unfollowed := true, recurses := true, named := ["math/bits.divideError", "math/bits.overflowError"], apart := false }
def DrawNextsSaid : Prop := drawNextsRow.holds Try.pinned (OpenSpec.ofChange drawNextsSpec)

/-- ITS FALSE NEIGHBOUR: 'it returns false'. Refute it at one input. -/
def drawNextsWrong : ChangeSpec := { name := "drawNexts", fn := fun _ => fun
  | [d1, d2, d3] => { results := [.lit (.bool false)], args := [d1, d2, d3] }
  | _ => none }
def DrawNextsWrongFalsely : Prop := drawNextsRow.holds Try.pinned (OpenSpec.ofChange drawNextsWrong)

/-- 'copselaw06.DrawTells': WHATEVER THE INPUT: true; the input reads as it did. -/
def drawTellsSpec : ChangeSpec := { name := "drawTells", fn := fun _ => fun
  | [d1, d2, d3, d4, d5, d6] => { results := [.lit (.bool true)], args := [d1, d2, d3, d4, d5, d6] }
  | _ => none }
def drawTellsRow : OpenClaim := { program := "ytfbodloidogliaa", sum := "cc8061f1ec7175c3e73575e4493a065e2f17dbe38a9a2091094119e0b9fa2239", func := "copse/copselaw06.DrawTells", spec := "drawTells", unfollowed := true, recurses := true, named := ["math/bits.divideError", "math/bits.overflowError"], apart := false }
def DrawTellsSaid : Prop := drawTellsRow.holds Try.pinned (OpenSpec.ofChange drawTellsSpec)

/-- ITS FALSE NEIGHBOUR: 'it returns false'. Refute it at one input. -/
def drawTellsWrong : ChangeSpec := { name := "drawTells", fn := fun _ => fun
  | [d1, d2, d3, d4, d5, d6] => { results := [.lit (.bool false)], args := [d1, d2, d3, d4, d5, d6] }
  | _ => none }
def DrawTellsWrongFalsely : Prop := drawTellsRow.holds Try.pinned (OpenSpec.ofChange drawTellsWrong)

/-- 'copselaw06.DrawFair': WHATEVER THE INPUT: true; the input reads as it did. -/
def drawFairSpec : ChangeSpec := { name := "drawFair", fn := fun _ => fun
  | [d1, d2, d3] => { results := [.lit (.bool true)], args := [d1, d2, d3] }
  | _ => none }
def drawFairRow : OpenClaim := { program := "ytfbodloidogliaa", sum := "cc8061f1ec7175c3e73575e4493a065e2f17dbe38a9a2091094119e0b9fa2239", func := "copse/copselaw06.DrawFair", spec := "drawFair", unfollowed := true, recurses := true, named := ["math/bits.divideError", "math/bits.overflowError"], apart := false }
def DrawFairSaid : Prop := drawFairRow.holds Try.pinned (OpenSpec.ofChange drawFairSpec)

/-- ITS FALSE NEIGHBOUR: 'it returns false'. Refute it at one input. -/
def drawFairWrong : ChangeSpec := { name := "drawFair", fn := fun _ => fun
  | [d1, d2, d3] => { results := [.lit (.bool false)], args := [d1, d2, d3] }
  | _ => none }
def DrawFairWrongFalsely : Prop := drawFairRow.holds Try.pinned (OpenSpec.ofChange drawFairWrong)

/-- 'copselaw06.DrawStays': WHATEVER THE INPUT: true; the input reads as it did. -/
def drawStaysSpec : ChangeSpec := { name := "drawStays", fn := fun _ => fun
  | [d1, d2, d3, d4, d5] => { results := [.lit (.bool true)], args := [d1, d2, d3, d4, d5] }
  | _ => none }
def drawStaysRow : OpenClaim := { program := "ytfbodloidogliaa", sum := "cc8061f1ec7175c3e73575e4493a065e2f17dbe38a9a2091094119e0b9fa2239", func := "copse/copselaw06.DrawStays", spec := "drawStays", unfollowed := true, recurses := true, named := ["math/bits.divideError", "math/bits.overflowError"], apart := false }
def DrawStaysSaid : Prop := drawStaysRow.holds Try.pinned (OpenSpec.ofChange drawStaysSpec)

/-- ITS FALSE NEIGHBOUR: 'it returns false'. Refute it at one input. -/
def drawStaysWrong : ChangeSpec := { name := "drawStays", fn := fun _ => fun
  | [d1, d2, d3, d4, d5] => { results := [.lit (.bool false)], args := [d1, d2, d3, d4, d5] }
  | _ => none }
def DrawStaysWrongFalsely : Prop := drawStaysRow.holds Try.pinned (OpenSpec.ofChange drawStaysWrong)

/-- 'copselaw01.NumTwo': WHATEVER THE INPUT: true; the input reads as it did. -/
def numTwoSpec : ChangeSpec := { name := "numTwo", fn := fun _ => fun
  | [d1, d2] => { results := [.lit (.bool true)], args := [d1, d2] }
  | _ => none }
def numTwoRow : OpenClaim := { program := "ytfbodloidogliaa", sum := "cc8061f1ec7175c3e73575e4493a065e2f17dbe38a9a2091094119e0b9fa2239", func := "copse/copselaw01.NumTwo", spec := "numTwo", inPlace := ["math/bits.Add64"], apart := false }
def NumTwoSaid : Prop := numTwoRow.holds Try.pinned (OpenSpec.ofChange numTwoSpec)

/-- ITS FALSE NEIGHBOUR: 'it returns false'. Refute it at one input. -/
def numTwoWrong : ChangeSpec := { name := "numTwo", fn := fun _ => fun
  | [d1, d2] => { results := [.lit (.bool false)], args := [d1, d2] }
  | _ => none }
def NumTwoWrongFalsely : Prop := numTwoRow.holds Try.pinned (OpenSpec.ofChange numTwoWrong)

/-- 'copselaw21.BinPuts': WHATEVER THE INPUT: true; the input reads as it did. -/
def binPutsSpec : ChangeSpec := { name := "binPuts", fn := fun _ => fun
  | [d1, d2, d3, d4, d5] => { results := [.lit (.bool true)], args := [d1, d2, d3, d4, d5] }
  | _ => none }
def binPutsRow : OpenClaim := { program := "ytfbodloidogliaa", sum := "cc8061f1ec7175c3e73575e4493a065e2f17dbe38a9a2091094119e0b9fa2239", func := "copse/copselaw21.BinPuts", spec := "binPuts", apart := false }
def BinPutsSaid : Prop := binPutsRow.holds Try.pinned (OpenSpec.ofChange binPutsSpec)

/-- ITS FALSE NEIGHBOUR: 'it returns false'. Refute it at one input. -/
def binPutsWrong : ChangeSpec := { name := "binPuts", fn := fun _ => fun
  | [d1, d2, d3, d4, d5] => { results := [.lit (.bool false)], args := [d1, d2, d3, d4, d5] }
  | _ => none }
def BinPutsWrongFalsely : Prop := binPutsRow.holds Try.pinned (OpenSpec.ofChange binPutsWrong)

/-- 'copselaw21.BinReads': WHATEVER THE INPUT: true; the input reads as it did. -/
def binReadsSpec : ChangeSpec := { name := "binReads", fn := fun _ => fun
  | [d1, d2] => { results := [.lit (.bool true)], args := [d1, d2] }
  | _ => none }
def binReadsRow : OpenClaim := { program := "ytfbodloidogliaa", sum := "cc8061f1ec7175c3e73575e4493a065e2f17dbe38a9a2091094119e0b9fa2239", func := "copse/copselaw21.BinReads", spec := "binReads", apart := false }
def BinReadsSaid : Prop := binReadsRow.holds Try.pinned (OpenSpec.ofChange binReadsSpec)

/-- ITS FALSE NEIGHBOUR: 'it returns false'. Refute it at one input. -/
def binReadsWrong : ChangeSpec := { name := "binReads", fn := fun _ => fun
  | [d1, d2] => { results := [.lit (.bool false)], args := [d1, d2] }
  | _ => none }
def BinReadsWrongFalsely : Prop := binReadsRow.holds Try.pinned (OpenSpec.ofChange binReadsWrong)

/-- 'copselaw21.BinOne': WHATEVER THE INPUT: true; the input reads as it did. -/
def binOneSpec : ChangeSpec := { name := "binOne", fn := fun _ => fun
  | [d] => { results := [.lit (.bool true)], args := [d] }
  | _ => none }
def binOneRow : OpenClaim := { program := "ytfbodloidogliaa", sum := "cc8061f1ec7175c3e73575e4493a065e2f17dbe38a9a2091094119e0b9fa2239", func := "copse/copselaw21.BinOne", spec := "binOne", apart := false }
def BinOneSaid : Prop := binOneRow.holds Try.pinned (OpenSpec.ofChange binOneSpec)

/-- ITS FALSE NEIGHBOUR: 'it returns false'. Refute it at one input. -/
def binOneWrong : ChangeSpec := { name := "binOne", fn := fun _ => fun
  | [d] => { results := [.lit (.bool false)], args := [d] }
  | _ => none }
def BinOneWrongFalsely : Prop := binOneRow.holds Try.pinned (OpenSpec.ofChange binOneWrong)

/- THE SECOND FORM. 'bulk': how many values and letters a reading holds, each counted each time it is reached (what is shared counts as often as it is met; a slice's spare places count too). A statement '..UptoSaid' is the law's where the arguments, and the package variables that the reading takes, are together of bulk at most 1048576: NARROWER than '..Said'. Prove '..Said' where nothing that the law and all that it calls make is longer than what came in: it says more and counts as full. Else prove '..UptoSaid'. A law counts once. -/
mutual
def uptoBulk {H : Type} : DataW H → Nat
  | .lit (.string bytes) => bytes.length + 1
  | .lit _ => 1
  | .nil => 1
  | .ptr d => uptoBulk d + 1
  | .slice elems spare => uptoBulkAll elems + uptoBulkAll spare + 1
  | .agg parts => uptoBulkAll parts + 1
  | .iface _ d => uptoBulk d + 1
  | .map entries => uptoBulkEntries entries + 1
  | .held _ => 1
def uptoBulkAll {H : Type} : List (DataW H) → Nat
  | [] => 0
  | d :: r => uptoBulk d + uptoBulkAll r
def uptoBulkEntries {H : Type} : List (Lit × DataW H) → Nat
  | [] => 0
  | x :: r => uptoBulkEntry x + uptoBulkEntries r
def uptoBulkEntry {H : Type} : Lit × DataW H → Nat
  | (.string bytes, d) => bytes.length + uptoBulk d + 1
  | (_, d) => uptoBulk d + 1
 end
def uptoSmall : (H : Type) → List (DataW H) → Bool := fun _ ds => decide (uptoBulkAll ds ≤ 1048576)
def OpenSpec.upto (s : _root_.Go.ChangeSpec) : _root_.Go.OpenSpec := { _root_.Go.OpenSpec.ofChange s with cond := some uptoSmall }

/-- 'copselaw01.NumLists', WHERE WHAT IT READS IS OF BULK AT MOST 1048576: true; the input reads as it did. -/
def numListsUptoRow : OpenClaim := { program := "ytfbodloidogliaa", sum := "cc8061f1ec7175c3e73575e4493a065e2f17dbe38a9a2091094119e0b9fa2239", func := "copse/copselaw01.NumLists", spec := "numLists", inPlace := ["math/bits.Add64"], apart := false, narrowed := true }
def NumListsUptoSaid : Prop := numListsUptoRow.holds Try.pinned (OpenSpec.upto numListsSpec)

/-- 'copselaw01.NumDots', WHERE WHAT IT READS IS OF BULK AT MOST 1048576: true; the input reads as it did. -/
def numDotsUptoRow : OpenClaim := { program := "ytfbodloidogliaa", sum := "cc8061f1ec7175c3e73575e4493a065e2f17dbe38a9a2091094119e0b9fa2239", func := "copse/copselaw01.NumDots", spec := "numDots", inPlace := ["math/bits.Add64"], apart := false, narrowed := true }
def NumDotsUptoSaid : Prop := numDotsUptoRow.holds Try.pinned (OpenSpec.upto numDotsSpec)

/-- 'copselaw01.NumSmall', WHERE WHAT IT READS IS OF BULK AT MOST 1048576: true; the input reads as it did. -/
def numSmallUptoRow : OpenClaim := { program := "ytfbodloidogliaa", sum := "cc8061f1ec7175c3e73575e4493a065e2f17dbe38a9a2091094119e0b9fa2239", func := "copse/copselaw01.NumSmall", spec := "numSmall", inPlace := ["math/bits.Add64"], apart := false, narrowed := true }
def NumSmallUptoSaid : Prop := numSmallUptoRow.holds Try.pinned (OpenSpec.upto numSmallSpec)

/-- 'copselaw01.NumDivides', WHERE WHAT IT READS IS OF BULK AT MOST 1048576: true; the input reads as it did. -/
def numDividesUptoRow : OpenClaim := { program := "ytfbodloidogliaa", sum := "cc8061f1ec7175c3e73575e4493a065e2f17dbe38a9a2091094119e0b9fa2239", func := "copse/copselaw01.NumDivides", spec := "numDivides", inPlace := ["math/bits.Add64"], apart := false, narrowed := true }
def NumDividesUptoSaid : Prop := numDividesUptoRow.holds Try.pinned (OpenSpec.upto numDividesSpec)

/-- 'copselaw06.DrawNexts', WHERE WHAT IT READS IS OF BULK AT MOST 1048576: true; the input reads as it did. -/
def drawNextsUptoRow : OpenClaim := { program := "ytfbodloidogliaa", sum := "cc8061f1ec7175c3e73575e4493a065e2f17dbe38a9a2091094119e0b9fa2239", func := "copse/copselaw06.DrawNexts", spec := "drawNexts", unfollowed := true, recurses := true, named := ["math/bits.divideError", "math/bits.overflowError"], apart := false, narrowed := true }
def DrawNextsUptoSaid : Prop := drawNextsUptoRow.holds Try.pinned (OpenSpec.upto drawNextsSpec)

/-- 'copselaw06.DrawTells', WHERE WHAT IT READS IS OF BULK AT MOST 1048576: true; the input reads as it did. -/
def drawTellsUptoRow : OpenClaim := { program := "ytfbodloidogliaa", sum := "cc8061f1ec7175c3e73575e4493a065e2f17dbe38a9a2091094119e0b9fa2239", func := "copse/copselaw06.DrawTells", spec := "drawTells", unfollowed := true, recurses := true, named := ["math/bits.divideError", "math/bits.overflowError"], apart := false, narrowed := true }
def DrawTellsUptoSaid : Prop := drawTellsUptoRow.holds Try.pinned (OpenSpec.upto drawTellsSpec)

/-- 'copselaw06.DrawFair', WHERE WHAT IT READS IS OF BULK AT MOST 1048576: true; the input reads as it did. -/
def drawFairUptoRow : OpenClaim := { program := "ytfbodloidogliaa", sum := "cc8061f1ec7175c3e73575e4493a065e2f17dbe38a9a2091094119e0b9fa2239", func := "copse/copselaw06.DrawFair", spec := "drawFair", unfollowed := true, recurses := true, named := ["math/bits.divideError", "math/bits.overflowError"], apart := false, narrowed := true }
def DrawFairUptoSaid : Prop := drawFairUptoRow.holds Try.pinned (OpenSpec.upto drawFairSpec)

/-- 'copselaw06.DrawStays', WHERE WHAT IT READS IS OF BULK AT MOST 1048576: true; the input reads as it did. -/
def drawStaysUptoRow : OpenClaim := { program := "ytfbodloidogliaa", sum := "cc8061f1ec7175c3e73575e4493a065e2f17dbe38a9a2091094119e0b9fa2239", func := "copse/copselaw06.DrawStays", spec := "drawStays", unfollowed := true, recurses := true, named := ["math/bits.divideError", "math/bits.overflowError"], apart := false, narrowed := true }
def DrawStaysUptoSaid : Prop := drawStaysUptoRow.holds Try.pinned (OpenSpec.upto drawStaysSpec)

/-- 'copselaw01.NumTwo', WHERE WHAT IT READS IS OF BULK AT MOST 1048576: true; the input reads as it did. -/
def numTwoUptoRow : OpenClaim := { program := "ytfbodloidogliaa", sum := "cc8061f1ec7175c3e73575e4493a065e2f17dbe38a9a2091094119e0b9fa2239", func := "copse/copselaw01.NumTwo", spec := "numTwo", inPlace := ["math/bits.Add64"], apart := false, narrowed := true }
def NumTwoUptoSaid : Prop := numTwoUptoRow.holds Try.pinned (OpenSpec.upto numTwoSpec)

/-- 'copselaw21.BinPuts', WHERE WHAT IT READS IS OF BULK AT MOST 1048576: true; the input reads as it did. -/
def binPutsUptoRow : OpenClaim := { program := "ytfbodloidogliaa", sum := "cc8061f1ec7175c3e73575e4493a065e2f17dbe38a9a2091094119e0b9fa2239", func := "copse/copselaw21.BinPuts", spec := "binPuts", apart := false, narrowed := true }
def BinPutsUptoSaid : Prop := binPutsUptoRow.holds Try.pinned (OpenSpec.upto binPutsSpec)

/-- 'copselaw21.BinReads', WHERE WHAT IT READS IS OF BULK AT MOST 1048576: true; the input reads as it did. -/
def binReadsUptoRow : OpenClaim := { program := "ytfbodloidogliaa", sum := "cc8061f1ec7175c3e73575e4493a065e2f17dbe38a9a2091094119e0b9fa2239", func := "copse/copselaw21.BinReads", spec := "binReads", apart := false, narrowed := true }
def BinReadsUptoSaid : Prop := binReadsUptoRow.holds Try.pinned (OpenSpec.upto binReadsSpec)

/-- 'copselaw21.BinOne', WHERE WHAT IT READS IS OF BULK AT MOST 1048576: true; the input reads as it did. -/
def binOneUptoRow : OpenClaim := { program := "ytfbodloidogliaa", sum := "cc8061f1ec7175c3e73575e4493a065e2f17dbe38a9a2091094119e0b9fa2239", func := "copse/copselaw21.BinOne", spec := "binOne", apart := false, narrowed := true }
def BinOneUptoSaid : Prop := binOneUptoRow.holds Try.pinned (OpenSpec.upto binOneSpec)

end Rows
end Go.Proofs.Ytfbodloidogliaa
