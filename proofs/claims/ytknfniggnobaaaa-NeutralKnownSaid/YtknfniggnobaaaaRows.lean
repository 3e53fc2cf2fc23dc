/-
  No cell of these rows narrows 'for every input' (looked for: loops, veiled, ifaces, maps, wideKeys, modest, calm, conditions, laid).
  DERIVED. THE GIVEN ROWS OF THIS SEAT. 6 by the template 'for every input the law returns true; each argument reads behind the call as it read before'; 0 by the template 'total and deterministic' (their statements: YtknfniggnobaaaaTotals.lean).
  GIVEN WITH THE SEED: the statements are not yours to turn. If you find one false, say at which input.
  Laid BY PROGRAM, IN A SANDBOX (cutbox-rows.mjs): the forced cells as the released guide's own fill.sh prints them over the translation ecf1a57635387ddd… (all of the seat's roots in one cut). By AI agents, Wed Nov 11 2026. No macro, syntax, notation, axiom, sorry.
-/
import Derived.Test.YtknfniggnobaaaaChecked
import GoSem.Claim
import GoSem.ClaimJoined
import GoSem.ClaimMapViews
import Derived.JoinedTies
import Derived.KernelRfl
namespace Go.Proofs.Ytknfniggnobaaaa
/- THE CELL 'sum', in the pinned program and in every row, IS THE sha256 OF THE DUMP (.gsa) THAT YtknfniggnobaaaaProg.lean LOADS. Nothing in Lean hashes anything: it is a label: what it is worth is what the hold of that sum in a sandbox is worth. -/
noncomputable def Try.pinned : Pinned := { name := "ytknfniggnobaaaa", sum := "ecf1a57635387ddd518ebc0edb618a7e8013584b65082666c0e6636af8521218", checked := Try.checked }
namespace Rows
def none {H : Type} : Left H := { results := [], args := [] }

/-- 'selvedgelaw18.NeutralResolves': WHATEVER THE INPUT: true; the input reads as it did. -/
def neutralResolvesSpec : ChangeSpec := { name := "neutralResolves", fn := fun _ => fun
  | [d1, d2, d3, d4] => { results := [.lit (.bool true)], args := [d1, d2, d3, d4] }
  | _ => none }
def neutralResolvesRow : OpenClaim := { program := "ytknfniggnobaaaa", sum := "ecf1a57635387ddd518ebc0edb618a7e8013584b65082666c0e6636af8521218", func := "selvedge/selvedgelaw18.NeutralResolves", spec := "neutralResolves", unfollowed := true, recurses := true, apart := false }
def NeutralResolvesSaid : Prop := neutralResolvesRow.holds Try.pinned (OpenSpec.ofChange neutralResolvesSpec)

/-- ITS FALSE NEIGHBOUR: 'it returns false'. Refute it at one input. -/
def neutralResolvesWrong : ChangeSpec := { name := "neutralResolves", fn := fun _ => fun
  | [d1, d2, d3, d4] => { results := [.lit (.bool false)], args := [d1, d2, d3, d4] }
  | _ => none }
def NeutralResolvesWrongFalsely : Prop := neutralResolvesRow.holds Try.pinned (OpenSpec.ofChange neutralResolvesWrong)

/-- 'selvedgelaw18.NeutralLevels': WHATEVER THE INPUT: true; the input reads as it did. -/
def neutralLevelsSpec : ChangeSpec := { name := "neutralLevels", fn := fun _ => fun
  | [d1, d2] => { results := [.lit (.bool true)], args := [d1, d2] }
  | _ => none }
def neutralLevelsRow : OpenClaim := { program := "ytknfniggnobaaaa", sum := "ecf1a57635387ddd518ebc0edb618a7e8013584b65082666c0e6636af8521218", func := "selvedge/selvedgelaw18.NeutralLevels", spec := "neutralLevels", unfollowed := true, recurses := true, apart := false }
def NeutralLevelsSaid : Prop := neutralLevelsRow.holds Try.pinned (OpenSpec.ofChange neutralLevelsSpec)

/-- ITS FALSE NEIGHBOUR: 'it returns false'. Refute it at one input. -/
def neutralLevelsWrong : ChangeSpec := { name := "neutralLevels", fn := fun _ => fun
  | [d1, d2] => { results := [.lit (.bool false)], args := [d1, d2] }
  | _ => none }
def NeutralLevelsWrongFalsely : Prop := neutralLevelsRow.holds Try.pinned (OpenSpec.ofChange neutralLevelsWrong)

/-- 'selvedgelaw18.NeutralEnds': WHATEVER THE INPUT: true; the input reads as it did. -/
def neutralEndsSpec : ChangeSpec := { name := "neutralEnds", fn := fun _ => fun
  | [d1, d2, d3, d4] => { results := [.lit (.bool true)], args := [d1, d2, d3, d4] }
  | _ => none }
def neutralEndsRow : OpenClaim := { program := "ytknfniggnobaaaa", sum := "ecf1a57635387ddd518ebc0edb618a7e8013584b65082666c0e6636af8521218", func := "selvedge/selvedgelaw18.NeutralEnds", spec := "neutralEnds", unfollowed := true, recurses := true, apart := false }
def NeutralEndsSaid : Prop := neutralEndsRow.holds Try.pinned (OpenSpec.ofChange neutralEndsSpec)

/-- ITS FALSE NEIGHBOUR: 'it returns false'. Refute it at one input. -/
def neutralEndsWrong : ChangeSpec := { name := "neutralEnds", fn := fun _ => fun
  | [d1, d2, d3, d4] => { results := [.lit (.bool false)], args := [d1, d2, d3, d4] }
  | _ => none }
def NeutralEndsWrongFalsely : Prop := neutralEndsRow.holds Try.pinned (OpenSpec.ofChange neutralEndsWrong)

/-- 'selvedgelaw18.NeutralPassed': WHATEVER THE INPUT: true; the input reads as it did. -/
def neutralPassedSpec : ChangeSpec := { name := "neutralPassed", fn := fun _ => fun
  | [d1, d2, d3, d4, d5] => { results := [.lit (.bool true)], args := [d1, d2, d3, d4, d5] }
  | _ => none }
def neutralPassedRow : OpenClaim := { program := "ytknfniggnobaaaa", sum := "ecf1a57635387ddd518ebc0edb618a7e8013584b65082666c0e6636af8521218", func := "selvedge/selvedgelaw18.NeutralPassed", spec := "neutralPassed", unfollowed := true, recurses := true, apart := false }
def NeutralPassedSaid : Prop := neutralPassedRow.holds Try.pinned (OpenSpec.ofChange neutralPassedSpec)

/-- ITS FALSE NEIGHBOUR: 'it returns false'. Refute it at one input. -/
def neutralPassedWrong : ChangeSpec := { name := "neutralPassed", fn := fun _ => fun
  | [d1, d2, d3, d4, d5] => { results := [.lit (.bool false)], args := [d1, d2, d3, d4, d5] }
  | _ => none }
def NeutralPassedWrongFalsely : Prop := neutralPassedRow.holds Try.pinned (OpenSpec.ofChange neutralPassedWrong)

/-- 'selvedgelaw18.NeutralCuts': WHATEVER THE INPUT: true; the input reads as it did. -/
def neutralCutsSpec : ChangeSpec := { name := "neutralCuts", fn := fun _ => fun
  | [d1, d2, d3, d4, d5, d6] => { results := [.lit (.bool true)], args := [d1, d2, d3, d4, d5, d6] }
  | _ => none }
def neutralCutsRow : OpenClaim := { program := "ytknfniggnobaaaa", sum := "ecf1a57635387ddd518ebc0edb618a7e8013584b65082666c0e6636af8521218", func := "selvedge/selvedgelaw18.NeutralCuts", spec := "neutralCuts", unfollowed := true, recurses := true, apart := false }
def NeutralCutsSaid : Prop := neutralCutsRow.holds Try.pinned (OpenSpec.ofChange neutralCutsSpec)

/-- ITS FALSE NEIGHBOUR: 'it returns false'. Refute it at one input. -/
def neutralCutsWrong : ChangeSpec := { name := "neutralCuts", fn := fun _ => fun
  | [d1, d2, d3, d4, d5, d6] => { results := [.lit (.bool false)], args := [d1, d2, d3, d4, d5, d6] }
  | _ => none }
def NeutralCutsWrongFalsely : Prop := neutralCutsRow.holds Try.pinned (OpenSpec.ofChange neutralCutsWrong)

/-- 'selvedgelaw18.NeutralKnown': WHATEVER THE INPUT: true; the input reads as it did. -/
def neutralKnownSpec : ChangeSpec := { name := "neutralKnown", fn := fun _ => fun
  | [] => { results := [.lit (.bool true)], args := [] }
  | _ => none }
def neutralKnownRow : OpenClaim := { program := "ytknfniggnobaaaa", sum := "ecf1a57635387ddd518ebc0edb618a7e8013584b65082666c0e6636af8521218", func := "selvedge/selvedgelaw18.NeutralKnown", spec := "neutralKnown", unfollowed := true, recurses := true, apart := false }
def NeutralKnownSaid : Prop := neutralKnownRow.holds Try.pinned (OpenSpec.ofChange neutralKnownSpec)

/-- ITS FALSE NEIGHBOUR: 'it returns false'. Refute it at one input. -/
def neutralKnownWrong : ChangeSpec := { name := "neutralKnown", fn := fun _ => fun
  | [] => { results := [.lit (.bool false)], args := [] }
  | _ => none }
def NeutralKnownWrongFalsely : Prop := neutralKnownRow.holds Try.pinned (OpenSpec.ofChange neutralKnownWrong)

/- THE SECOND FORM. 'bulk': how many values and letters a reading holds, each counted each time it is reached (what is shared counts as often as it is met; a slice's spare places count too). A statement '..UptoSaid' is the law's where the arguments, and the package variables that the reading takes, are together of bulk at most 1048576: NARROWER than '..Said'. Prove '..Said' where nothing that the law and all that it calls make is longer than what came in: it says more and counts as full. Else prove '..UptoSaid'. A law counts once. -/
mutual
def uptoBulk {H : Type} : DataW H → Nat
  | .lit (.string bytes) => bytes.length + 1
  | .lit _ => 1
  | .nil => 1
  | .ptr d => uptoBulk d + 1
  | .slice elems spare => uptoBulkAll elems + uptoBulkAll spare + 1
  | .agg parts => uptoBulkAll parts + 1
  | .iface _ d => uptoBulk d + 1
  | .map entries => uptoBulkEntries entries + 1
  | .held _ => 1
def uptoBulkAll {H : Type} : List (DataW H) → Nat
  | [] => 0
  | d :: r => uptoBulk d + uptoBulkAll r
def uptoBulkEntries {H : Type} : List (Lit × DataW H) → Nat
  | [] => 0
  | x :: r => uptoBulkEntry x + uptoBulkEntries r
def uptoBulkEntry {H : Type} : Lit × DataW H → Nat
  | (.string bytes, d) => bytes.length + uptoBulk d + 1
  | (_, d) => uptoBulk d + 1
 end
def uptoSmall : (H : Type) → List (DataW H) → Bool := fun _ ds => decide (uptoBulkAll ds ≤ 1048576)
def OpenSpec.upto (s : _root_.Go.ChangeSpec) : _root_.Go.OpenSpec := { _root_.Go.OpenSpec.ofChange s with cond := some uptoSmall }

/-- 'selvedgelaw18.NeutralResolves', WHERE WHAT IT READS IS OF BULK AT MOST 1048576: true; the input reads as it did. -/
def neutralResolvesUptoRow : OpenClaim := { program := "ytknfniggnobaaaa", sum := "ecf1a57635387ddd518ebc0edb618a7e8013584b65082666c0e6636af8521218", func := "selvedge/selvedgelaw18.NeutralResolves", spec := "neutralResolves", unfollowed := true, recurses := true, apart := false, narrowed := true }
def NeutralResolvesUptoSaid : Prop := neutralResolvesUptoRow.holds Try.pinned (OpenSpec.upto neutralResolvesSpec)

/-- 'selvedgelaw18.NeutralLevels', WHERE WHAT IT READS IS OF BULK AT MOST 1048576: true; the input reads as it did. -/
def neutralLevelsUptoRow : OpenClaim := { program := "ytknfniggnobaaaa", sum := "ecf1a57635387ddd518ebc0edb618a7e8013584b65082666c0e6636af8521218", func := "selvedge/selvedgelaw18.NeutralLevels", spec := "neutralLevels", unfollowed := true, recurses := true, apart := false, narrowed := true }
def NeutralLevelsUptoSaid : Prop := neutralLevelsUptoRow.holds Try.pinned (OpenSpec.upto neutralLevelsSpec)

/-- 'selvedgelaw18.NeutralEnds', WHERE WHAT IT READS IS OF BULK AT MOST 1048576: true; the input reads as it did. -/
def neutralEndsUptoRow : OpenClaim := { program := "ytknfniggnobaaaa", sum := "ecf1a57635387ddd518ebc0edb618a7e8013584b65082666c0e6636af8521218", func := "selvedge/selvedgelaw18.NeutralEnds", spec := "neutralEnds", unfollowed := true, recurses := true, apart := false, narrowed := true }
def NeutralEndsUptoSaid : Prop := neutralEndsUptoRow.holds Try.pinned (OpenSpec.upto neutralEndsSpec)

/-- 'selvedgelaw18.NeutralPassed', WHERE WHAT IT READS IS OF BULK AT MOST 1048576: true; the input reads as it did. -/
def neutralPassedUptoRow : OpenClaim := { program := "ytknfniggnobaaaa", sum := "ecf1a57635387ddd518ebc0edb618a7e8013584b65082666c0e6636af8521218", func := "selvedge/selvedgelaw18.NeutralPassed", spec := "neutralPassed", unfollowed := true, recurses := true, apart := false, narrowed := true }
def NeutralPassedUptoSaid : Prop := neutralPassedUptoRow.holds Try.pinned (OpenSpec.upto neutralPassedSpec)

/-- 'selvedgelaw18.NeutralCuts', WHERE WHAT IT READS IS OF BULK AT MOST 1048576: true; the input reads as it did. -/
def neutralCutsUptoRow : OpenClaim := { program := "ytknfniggnobaaaa", sum := "ecf1a57635387ddd518ebc0edb618a7e8013584b65082666c0e6636af8521218", func := "selvedge/selvedgelaw18.NeutralCuts", spec := "neutralCuts", unfollowed := true, recurses := true, apart := false, narrowed := true }
def NeutralCutsUptoSaid : Prop := neutralCutsUptoRow.holds Try.pinned (OpenSpec.upto neutralCutsSpec)

/-- 'selvedgelaw18.NeutralKnown', WHERE WHAT IT READS IS OF BULK AT MOST 1048576: true; the input reads as it did. -/
def neutralKnownUptoRow : OpenClaim := { program := "ytknfniggnobaaaa", sum := "ecf1a57635387ddd518ebc0edb618a7e8013584b65082666c0e6636af8521218", func := "selvedge/selvedgelaw18.NeutralKnown", spec := "neutralKnown", unfollowed := true, recurses := true, apart := false, narrowed := true }
def NeutralKnownUptoSaid : Prop := neutralKnownUptoRow.holds Try.pinned (OpenSpec.upto neutralKnownSpec)

end Rows
end Go.Proofs.Ytknfniggnobaaaa
