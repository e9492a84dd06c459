/-
  No cell of these rows narrows 'for every input' (looked for: loops, veiled, ifaces, maps, wideKeys, modest, calm, conditions, laid).
  DERIVED. THE GIVEN ROWS OF THIS SEAT. 3 by the template 'for every input the law returns true; each argument reads behind the call as it read before'; 0 by the template 'total and deterministic' (their statements: YtgobbecpnjelmaaGreatTotals.lean).
  GIVEN WITH THE SEED: the statements are not yours to turn. If you find one false, say at which input.
  Laid BY PROGRAM, IN A SANDBOX (cutbox-rows.mjs): the forced cells as the released guide's own fill.sh prints them over the translation a65093e0f91f7f4f… (all of the seat's roots in one cut). By AI agents, Wed Nov 11 2026. No macro, syntax, notation, axiom, sorry.
-/
import Derived.Test.YtgobbecpnjelmaaGreatChecked
import GoSem.Claim
import GoSem.ClaimJoined
import GoSem.ClaimMapViews
import Derived.JoinedTies
import Derived.KernelRfl
namespace Go.Proofs.YtgobbecpnjelmaaGreat
/- THE CELL 'sum', in the pinned program and in every row, IS THE sha256 OF THE DUMP (.gsa) THAT YtgobbecpnjelmaaGreatProg.lean LOADS. Nothing in Lean hashes anything: it is a label: what it is worth is what the hold of that sum in a sandbox is worth. -/
noncomputable def Tryz.pinned : Pinned := { name := "ytgobbecpnjelmaagreat", sum := "a65093e0f91f7f4f57f50007b83313d315b08fd6262a9d1dd674aba6155b8a1f", checked := Tryz.checked }
namespace Rows
def none {H : Type} : Left H := { results := [], args := [] }

/-- 'copselaw28.StateRights': WHATEVER THE INPUT: true; the input reads as it did. -/
def stateRightsSpec : ChangeSpec := { name := "stateRights", fn := fun _ => fun
  | [d1, d2] => { results := [.lit (.bool true)], args := [d1, d2] }
  | _ => none }
def stateRightsRow : OpenClaim := { program := "ytgobbecpnjelmaagreat", sum := "a65093e0f91f7f4f57f50007b83313d315b08fd6262a9d1dd674aba6155b8a1f", func := "copse/copselaw28.StateRights", spec := "stateRights", unfollowed := true, recurses := true, apart := false }
def StateRightsSaid : Prop := stateRightsRow.holds Tryz.pinned (OpenSpec.ofChange stateRightsSpec)

/-- ITS FALSE NEIGHBOUR: 'it returns false'. Refute it at one input. -/
def stateRightsWrong : ChangeSpec := { name := "stateRights", fn := fun _ => fun
  | [d1, d2] => { results := [.lit (.bool false)], args := [d1, d2] }
  | _ => none }
def StateRightsWrongFalsely : Prop := stateRightsRow.holds Tryz.pinned (OpenSpec.ofChange stateRightsWrong)

/-- 'copselaw28.StateBirths': WHATEVER THE INPUT: true; the input reads as it did. -/
def stateBirthsSpec : ChangeSpec := { name := "stateBirths", fn := fun _ => fun
  | [d1, d2] => { results := [.lit (.bool true)], args := [d1, d2] }
  | _ => none }
def stateBirthsRow : OpenClaim := { program := "ytgobbecpnjelmaagreat", sum := "a65093e0f91f7f4f57f50007b83313d315b08fd6262a9d1dd674aba6155b8a1f", func := "copse/copselaw28.StateBirths", spec := "stateBirths", unfollowed := true, recurses := true, apart := false }
def StateBirthsSaid : Prop := stateBirthsRow.holds Tryz.pinned (OpenSpec.ofChange stateBirthsSpec)

/-- ITS FALSE NEIGHBOUR: 'it returns false'. Refute it at one input. -/
def stateBirthsWrong : ChangeSpec := { name := "stateBirths", fn := fun _ => fun
  | [d1, d2] => { results := [.lit (.bool false)], args := [d1, d2] }
  | _ => none }
def StateBirthsWrongFalsely : Prop := stateBirthsRow.holds Tryz.pinned (OpenSpec.ofChange stateBirthsWrong)

/-- 'copselaw28.StatePuts': WHATEVER THE INPUT: true; the input reads as it did. -/
def statePutsSpec : ChangeSpec := { name := "statePuts", fn := fun _ => fun
  | [d] => { results := [.lit (.bool true)], args := [d] }
  | _ => none }
def statePutsRow : OpenClaim := { program := "ytgobbecpnjelmaagreat", sum := "a65093e0f91f7f4f57f50007b83313d315b08fd6262a9d1dd674aba6155b8a1f", func := "copse/copselaw28.StatePuts", spec := "statePuts", unfollowed := true, recurses := true, apart := false }
def StatePutsSaid : Prop := statePutsRow.holds Tryz.pinned (OpenSpec.ofChange statePutsSpec)

/-- ITS FALSE NEIGHBOUR: 'it returns false'. Refute it at one input. -/
def statePutsWrong : ChangeSpec := { name := "statePuts", fn := fun _ => fun
  | [d] => { results := [.lit (.bool false)], args := [d] }
  | _ => none }
def StatePutsWrongFalsely : Prop := statePutsRow.holds Tryz.pinned (OpenSpec.ofChange statePutsWrong)

/- THE SECOND FORM. 'bulk': how many values and letters a reading holds, each counted each time it is reached (what is shared counts as often as it is met; a slice's spare places count too). A statement '..UptoSaid' is the law's where the arguments, and the package variables that the reading takes, are together of bulk at most 1048576: NARROWER than '..Said'. Prove '..Said' where nothing that the law and all that it calls make is longer than what came in: it says more and counts as full. Else prove '..UptoSaid'. A law counts once. -/
mutual
def uptoBulk {H : Type} : DataW H → Nat
  | .lit (.string bytes) => bytes.length + 1
  | .lit _ => 1
  | .nil => 1
  | .ptr d => uptoBulk d + 1
  | .slice elems spare => uptoBulkAll elems + uptoBulkAll spare + 1
  | .agg parts => uptoBulkAll parts + 1
  | .iface _ d => uptoBulk d + 1
  | .map entries => uptoBulkEntries entries + 1
  | .held _ => 1
def uptoBulkAll {H : Type} : List (DataW H) → Nat
  | [] => 0
  | d :: r => uptoBulk d + uptoBulkAll r
def uptoBulkEntries {H : Type} : List (Lit × DataW H) → Nat
  | [] => 0
  | x :: r => uptoBulkEntry x + uptoBulkEntries r
def uptoBulkEntry {H : Type} : Lit × DataW H → Nat
  | (.string bytes, d) => bytes.length + uptoBulk d + 1
  | (_, d) => uptoBulk d + 1
 end
def uptoSmall : (H : Type) → List (DataW H) → Bool := fun _ ds => decide (uptoBulkAll ds ≤ 1048576)
def OpenSpec.upto (s : _root_.Go.ChangeSpec) : _root_.Go.OpenSpec := { _root_.Go.OpenSpec.ofChange s with cond := some uptoSmall }

/-- 'copselaw28.StateRights', WHERE WHAT IT READS IS OF BULK AT MOST 1048576: true; the input reads as it did. -/
def stateRightsUptoRow : OpenClaim := { program := "ytgobbecpnjelmaagreat", sum := "a65093e0f91f7f4f57f50007b83313d315b08fd6262a9d1dd674aba6155b8a1f", func := "copse/copselaw28.StateRights", spec := "stateRights", unfollowed := true, recurses := true, apart := false, narrowed := true }
def StateRightsUptoSaid : Prop := stateRightsUptoRow.holds Tryz.pinned (OpenSpec.upto stateRightsSpec)

/-- 'copselaw28.StateBirths', WHERE WHAT IT READS IS OF BULK AT MOST 1048576: true; the input reads as it did. -/
def stateBirthsUptoRow : OpenClaim := { program := "ytgobbecpnjelmaagreat", sum := "a65093e0f91f7f4f57f50007b83313d315b08fd6262a9d1dd674aba6155b8a1f", func := "copse/copselaw28.StateBirths", spec := "stateBirths", unfollowed := true, recurses := true, apart := false, narrowed := true }
def StateBirthsUptoSaid : Prop := stateBirthsUptoRow.holds Tryz.pinned (OpenSpec.upto stateBirthsSpec)

/-- 'copselaw28.StatePuts', WHERE WHAT IT READS IS OF BULK AT MOST 1048576: true; the input reads as it did. -/
def statePutsUptoRow : OpenClaim := { program := "ytgobbecpnjelmaagreat", sum := "a65093e0f91f7f4f57f50007b83313d315b08fd6262a9d1dd674aba6155b8a1f", func := "copse/copselaw28.StatePuts", spec := "statePuts", unfollowed := true, recurses := true, apart := false, narrowed := true }
def StatePutsUptoSaid : Prop := statePutsUptoRow.holds Tryz.pinned (OpenSpec.upto statePutsSpec)

end Rows
end Go.Proofs.YtgobbecpnjelmaaGreat
