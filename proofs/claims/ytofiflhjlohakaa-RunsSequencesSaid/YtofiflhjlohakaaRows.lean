/-
  No cell of these rows narrows 'for every input' (looked for: loops, veiled, ifaces, maps, wideKeys, modest, calm, conditions, laid).
  DERIVED. THE GIVEN ROWS OF THIS SEAT. 5 by the template 'for every input the law returns true; each argument reads behind the call as it read before'; 0 by the template 'total and deterministic' (their statements: YtofiflhjlohakaaTotals.lean).
  GIVEN WITH THE SEED: the statements are not yours to turn. If you find one false, say at which input.
  Laid BY PROGRAM, IN A SANDBOX (cutbox-rows.mjs): the forced cells as the released guide's own fill.sh prints them over the translation 946dc63e64f683bb… (all of the seat's roots in one cut). By AI agents, Wed Nov 11 2026. No macro, syntax, notation, axiom, sorry.
-/
import Derived.Test.YtofiflhjlohakaaChecked
import GoSem.Claim
import GoSem.ClaimJoined
import GoSem.ClaimMapViews
import Derived.JoinedTies
import Derived.KernelRfl
namespace Go.Proofs.Ytofiflhjlohakaa
/- THE CELL 'sum', in the pinned program and in every row, IS THE sha256 OF THE DUMP (.gsa) THAT YtofiflhjlohakaaProg.lean LOADS. Nothing in Lean hashes anything: it is a label: what it is worth is what the hold of that sum in a sandbox is worth. -/
noncomputable def Try.pinned : Pinned := { name := "ytofiflhjlohakaa", sum := "946dc63e64f683bb4d7def803aa2436652335bfb76710512b2976801fe3b4a96", checked := Try.checked }
namespace Rows
def none {H : Type} : Left H := { results := [], args := [] }

/-- 'selvedgelaw15.RunsSequences': WHATEVER THE INPUT: true; the input reads as it did. -/
def runsSequencesSpec : ChangeSpec := { name := "runsSequences", fn := fun _ => fun
  | [d1, d2, d3] => { results := [.lit (.bool true)], args := [d1, d2, d3] }
  | _ => none }
def runsSequencesRow : OpenClaim := { program := "ytofiflhjlohakaa", sum := "946dc63e64f683bb4d7def803aa2436652335bfb76710512b2976801fe3b4a96", func := "selvedge/selvedgelaw15.RunsSequences", spec := "runsSequences", unfollowed := true, recurses := true, apart := false }
def RunsSequencesSaid : Prop := runsSequencesRow.holds Try.pinned (OpenSpec.ofChange runsSequencesSpec)

/-- ITS FALSE NEIGHBOUR: 'it returns false'. Refute it at one input. -/
def runsSequencesWrong : ChangeSpec := { name := "runsSequences", fn := fun _ => fun
  | [d1, d2, d3] => { results := [.lit (.bool false)], args := [d1, d2, d3] }
  | _ => none }
def RunsSequencesWrongFalsely : Prop := runsSequencesRow.holds Try.pinned (OpenSpec.ofChange runsSequencesWrong)

/-- 'selvedgelaw15.RunsOnce': WHATEVER THE INPUT: true; the input reads as it did. -/
def runsOnceSpec : ChangeSpec := { name := "runsOnce", fn := fun _ => fun
  | [d1, d2] => { results := [.lit (.bool true)], args := [d1, d2] }
  | _ => none }
def runsOnceRow : OpenClaim := { program := "ytofiflhjlohakaa", sum := "946dc63e64f683bb4d7def803aa2436652335bfb76710512b2976801fe3b4a96", func := "selvedge/selvedgelaw15.RunsOnce", spec := "runsOnce", unfollowed := true, recurses := true, apart := false }
def RunsOnceSaid : Prop := runsOnceRow.holds Try.pinned (OpenSpec.ofChange runsOnceSpec)

/-- ITS FALSE NEIGHBOUR: 'it returns false'. Refute it at one input. -/
def runsOnceWrong : ChangeSpec := { name := "runsOnce", fn := fun _ => fun
  | [d1, d2] => { results := [.lit (.bool false)], args := [d1, d2] }
  | _ => none }
def RunsOnceWrongFalsely : Prop := runsOnceRow.holds Try.pinned (OpenSpec.ofChange runsOnceWrong)

/-- 'selvedgelaw15.RunsWithout': WHATEVER THE INPUT: true; the input reads as it did. -/
def runsWithoutSpec : ChangeSpec := { name := "runsWithout", fn := fun _ => fun
  | [d1, d2, d3, d4] => { results := [.lit (.bool true)], args := [d1, d2, d3, d4] }
  | _ => none }
def runsWithoutRow : OpenClaim := { program := "ytofiflhjlohakaa", sum := "946dc63e64f683bb4d7def803aa2436652335bfb76710512b2976801fe3b4a96", func := "selvedge/selvedgelaw15.RunsWithout", spec := "runsWithout", unfollowed := true, recurses := true, apart := false }
def RunsWithoutSaid : Prop := runsWithoutRow.holds Try.pinned (OpenSpec.ofChange runsWithoutSpec)

/-- ITS FALSE NEIGHBOUR: 'it returns false'. Refute it at one input. -/
def runsWithoutWrong : ChangeSpec := { name := "runsWithout", fn := fun _ => fun
  | [d1, d2, d3, d4] => { results := [.lit (.bool false)], args := [d1, d2, d3, d4] }
  | _ => none }
def RunsWithoutWrongFalsely : Prop := runsWithoutRow.holds Try.pinned (OpenSpec.ofChange runsWithoutWrong)

/-- 'selvedgelaw15.RunsPlain': WHATEVER THE INPUT: true; the input reads as it did. -/
def runsPlainSpec : ChangeSpec := { name := "runsPlain", fn := fun _ => fun
  | [d1, d2, d3] => { results := [.lit (.bool true)], args := [d1, d2, d3] }
  | _ => none }
def runsPlainRow : OpenClaim := { program := "ytofiflhjlohakaa", sum := "946dc63e64f683bb4d7def803aa2436652335bfb76710512b2976801fe3b4a96", func := "selvedge/selvedgelaw15.RunsPlain", spec := "runsPlain", unfollowed := true, recurses := true, apart := false }
def RunsPlainSaid : Prop := runsPlainRow.holds Try.pinned (OpenSpec.ofChange runsPlainSpec)

/-- ITS FALSE NEIGHBOUR: 'it returns false'. Refute it at one input. -/
def runsPlainWrong : ChangeSpec := { name := "runsPlain", fn := fun _ => fun
  | [d1, d2, d3] => { results := [.lit (.bool false)], args := [d1, d2, d3] }
  | _ => none }
def RunsPlainWrongFalsely : Prop := runsPlainRow.holds Try.pinned (OpenSpec.ofChange runsPlainWrong)

/-- 'selvedgelaw15.RunsKnown': WHATEVER THE INPUT: true; the input reads as it did. -/
def runsKnownSpec : ChangeSpec := { name := "runsKnown", fn := fun _ => fun
  | [] => { results := [.lit (.bool true)], args := [] }
  | _ => none }
def runsKnownRow : OpenClaim := { program := "ytofiflhjlohakaa", sum := "946dc63e64f683bb4d7def803aa2436652335bfb76710512b2976801fe3b4a96", func := "selvedge/selvedgelaw15.RunsKnown", spec := "runsKnown", unfollowed := true, recurses := true, apart := false }
def RunsKnownSaid : Prop := runsKnownRow.holds Try.pinned (OpenSpec.ofChange runsKnownSpec)

/-- ITS FALSE NEIGHBOUR: 'it returns false'. Refute it at one input. -/
def runsKnownWrong : ChangeSpec := { name := "runsKnown", fn := fun _ => fun
  | [] => { results := [.lit (.bool false)], args := [] }
  | _ => none }
def RunsKnownWrongFalsely : Prop := runsKnownRow.holds Try.pinned (OpenSpec.ofChange runsKnownWrong)

/- THE SECOND FORM. 'bulk': how many values and letters a reading holds, each counted each time it is reached (what is shared counts as often as it is met; a slice's spare places count too). A statement '..UptoSaid' is the law's where the arguments, and the package variables that the reading takes, are together of bulk at most 1048576: NARROWER than '..Said'. Prove '..Said' where nothing that the law and all that it calls make is longer than what came in: it says more and counts as full. Else prove '..UptoSaid'. A law counts once. -/
mutual
def uptoBulk {H : Type} : DataW H → Nat
  | .lit (.string bytes) => bytes.length + 1
  | .lit _ => 1
  | .nil => 1
  | .ptr d => uptoBulk d + 1
  | .slice elems spare => uptoBulkAll elems + uptoBulkAll spare + 1
  | .agg parts => uptoBulkAll parts + 1
  | .iface _ d => uptoBulk d + 1
  | .map entries => uptoBulkEntries entries + 1
  | .held _ => 1
def uptoBulkAll {H : Type} : List (DataW H) → Nat
  | [] => 0
  | d :: r => uptoBulk d + uptoBulkAll r
def uptoBulkEntries {H : Type} : List (Lit × DataW H) → Nat
  | [] => 0
  | x :: r => uptoBulkEntry x + uptoBulkEntries r
def uptoBulkEntry {H : Type} : Lit × DataW H → Nat
  | (.string bytes, d) => bytes.length + uptoBulk d + 1
  | (_, d) => uptoBulk d + 1
 end
def uptoSmall : (H : Type) → List (DataW H) → Bool := fun _ ds => decide (uptoBulkAll ds ≤ 1048576)
def OpenSpec.upto (s : _root_.Go.ChangeSpec) : _root_.Go.OpenSpec := { _root_.Go.OpenSpec.ofChange s with cond := some uptoSmall }

/-- 'selvedgelaw15.RunsSequences', WHERE WHAT IT READS IS OF BULK AT MOST 1048576: true; the input reads as it did. -/
def runsSequencesUptoRow : OpenClaim := { program := "ytofiflhjlohakaa", sum := "946dc63e64f683bb4d7def803aa2436652335bfb76710512b2976801fe3b4a96", func := "selvedge/selvedgelaw15.RunsSequences", spec := "runsSequences", unfollowed := true, recurses := true, apart := false, narrowed := true }
def RunsSequencesUptoSaid : Prop := runsSequencesUptoRow.holds Try.pinned (OpenSpec.upto runsSequencesSpec)

/-- 'selvedgelaw15.RunsOnce', WHERE WHAT IT READS IS OF BULK AT MOST 1048576: true; the input reads as it did. -/
def runsOnceUptoRow : OpenClaim := { program := "ytofiflhjlohakaa", sum := "946dc63e64f683bb4d7def803aa2436652335bfb76710512b2976801fe3b4a96", func := "selvedge/selvedgelaw15.RunsOnce", spec := "runsOnce", unfollowed := true, recurses := true, apart := false, narrowed := true }
def RunsOnceUptoSaid : Prop := runsOnceUptoRow.holds Try.pinned (OpenSpec.upto runsOnceSpec)

/-- 'selvedgelaw15.RunsWithout', WHERE WHAT IT READS IS OF BULK AT MOST 1048576: true; the input reads as it did. -/
def runsWithoutUptoRow : OpenClaim := { program := "ytofiflhjlohakaa", sum := "946dc63e64f683bb4d7def803aa2436652335bfb76710512b2976801fe3b4a96", func := "selvedge/selvedgelaw15.RunsWithout", spec := "runsWithout", unfollowed := true, recurses := true, apart := false, narrowed := true }
def RunsWithoutUptoSaid : Prop := runsWithoutUptoRow.holds Try.pinned (OpenSpec.upto runsWithoutSpec)

/-- 'selvedgelaw15.RunsPlain', WHERE WHAT IT READS IS OF BULK AT MOST 1048576: true; the input reads as it did. -/
def runsPlainUptoRow : OpenClaim := { program := "ytofiflhjlohakaa", sum := "946dc63e64f683bb4d7def803aa2436652335bfb76710512b2976801fe3b4a96", func := "selvedge/selvedgelaw15.RunsPlain", spec := "runsPlain", unfollowed := true, recurses := true, apart := false, narrowed := true }
def RunsPlainUptoSaid : Prop := runsPlainUptoRow.holds Try.pinned (OpenSpec.upto runsPlainSpec)

/-- 'selvedgelaw15.RunsKnown', WHERE WHAT IT READS IS OF BULK AT MOST 1048576: true; the input reads as it did. -/
def runsKnownUptoRow : OpenClaim := { program := "ytofiflhjlohakaa", sum := "946dc63e64f683bb4d7def803aa2436652335bfb76710512b2976801fe3b4a96", func := "selvedge/selvedgelaw15.RunsKnown", spec := "runsKnown", unfollowed := true, recurses := true, apart := false, narrowed := true }
def RunsKnownUptoSaid : Prop := runsKnownUptoRow.holds Try.pinned (OpenSpec.upto runsKnownSpec)

end Rows
end Go.Proofs.Ytofiflhjlohakaa
