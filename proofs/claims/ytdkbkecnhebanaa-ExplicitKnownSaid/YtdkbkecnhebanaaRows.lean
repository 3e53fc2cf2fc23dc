/-
  No cell of these rows narrows 'for every input' (looked for: loops, veiled, ifaces, maps, wideKeys, modest, calm, conditions, laid).
  DERIVED. THE GIVEN ROWS OF THIS SEAT. 7 by the template 'for every input the law returns true; each argument reads behind the call as it read before'; 0 by the template 'total and deterministic' (their statements: YtdkbkecnhebanaaTotals.lean).
  GIVEN WITH THE SEED: the statements are not yours to turn. If you find one false, say at which input.
  Laid BY PROGRAM, IN A SANDBOX (cutbox-rows.mjs): the forced cells as the released guide's own fill.sh prints them over the translation b431ce5b079912be… (all of the seat's roots in one cut). By AI agents, Wed Nov 11 2026. No macro, syntax, notation, axiom, sorry.
-/
import Derived.Test.YtdkbkecnhebanaaChecked
import GoSem.Claim
import GoSem.ClaimJoined
import GoSem.ClaimMapViews
import Derived.JoinedTies
import Derived.KernelRfl
namespace Go.Proofs.Ytdkbkecnhebanaa
/- THE CELL 'sum', in the pinned program and in every row, IS THE sha256 OF THE DUMP (.gsa) THAT YtdkbkecnhebanaaProg.lean LOADS. Nothing in Lean hashes anything: it is a label: what it is worth is what the hold of that sum in a sandbox is worth. -/
noncomputable def Try.pinned : Pinned := { name := "ytdkbkecnhebanaa", sum := "b431ce5b079912be91ee56e6a9e08c0247460ae853718fce07b8e37e636fc303", checked := Try.checked }
namespace Rows
def none {H : Type} : Left H := { results := [], args := [] }

/-- 'selvedgelaw14.ExplicitMatches': WHATEVER THE INPUT: true; the input reads as it did. -/
def explicitMatchesSpec : ChangeSpec := { name := "explicitMatches", fn := fun _ => fun
  | [d] => { results := [.lit (.bool true)], args := [d] }
  | _ => none }
def explicitMatchesRow : OpenClaim := { program := "ytdkbkecnhebanaa", sum := "b431ce5b079912be91ee56e6a9e08c0247460ae853718fce07b8e37e636fc303", func := "selvedge/selvedgelaw14.ExplicitMatches", spec := "explicitMatches", apart := false }
def ExplicitMatchesSaid : Prop := explicitMatchesRow.holds Try.pinned (OpenSpec.ofChange explicitMatchesSpec)

/-- ITS FALSE NEIGHBOUR: 'it returns false'. Refute it at one input. -/
def explicitMatchesWrong : ChangeSpec := { name := "explicitMatches", fn := fun _ => fun
  | [d] => { results := [.lit (.bool false)], args := [d] }
  | _ => none }
def ExplicitMatchesWrongFalsely : Prop := explicitMatchesRow.holds Try.pinned (OpenSpec.ofChange explicitMatchesWrong)

/-- 'selvedgelaw14.ExplicitLevels': WHATEVER THE INPUT: true; the input reads as it did. -/
def explicitLevelsSpec : ChangeSpec := { name := "explicitLevels", fn := fun _ => fun
  | [d1, d2] => { results := [.lit (.bool true)], args := [d1, d2] }
  | _ => none }
def explicitLevelsRow : OpenClaim := { program := "ytdkbkecnhebanaa", sum := "b431ce5b079912be91ee56e6a9e08c0247460ae853718fce07b8e37e636fc303", func := "selvedge/selvedgelaw14.ExplicitLevels", spec := "explicitLevels", apart := false }
def ExplicitLevelsSaid : Prop := explicitLevelsRow.holds Try.pinned (OpenSpec.ofChange explicitLevelsSpec)

/-- ITS FALSE NEIGHBOUR: 'it returns false'. Refute it at one input. -/
def explicitLevelsWrong : ChangeSpec := { name := "explicitLevels", fn := fun _ => fun
  | [d1, d2] => { results := [.lit (.bool false)], args := [d1, d2] }
  | _ => none }
def ExplicitLevelsWrongFalsely : Prop := explicitLevelsRow.holds Try.pinned (OpenSpec.ofChange explicitLevelsWrong)

/-- 'selvedgelaw14.ExplicitIsolates': WHATEVER THE INPUT: true; the input reads as it did. -/
def explicitIsolatesSpec : ChangeSpec := { name := "explicitIsolates", fn := fun _ => fun
  | [d1, d2, d3, d4, d5, d6] => { results := [.lit (.bool true)], args := [d1, d2, d3, d4, d5, d6] }
  | _ => none }
def explicitIsolatesRow : OpenClaim := { program := "ytdkbkecnhebanaa", sum := "b431ce5b079912be91ee56e6a9e08c0247460ae853718fce07b8e37e636fc303", func := "selvedge/selvedgelaw14.ExplicitIsolates", spec := "explicitIsolates", apart := false }
def ExplicitIsolatesSaid : Prop := explicitIsolatesRow.holds Try.pinned (OpenSpec.ofChange explicitIsolatesSpec)

/-- ITS FALSE NEIGHBOUR: 'it returns false'. Refute it at one input. -/
def explicitIsolatesWrong : ChangeSpec := { name := "explicitIsolates", fn := fun _ => fun
  | [d1, d2, d3, d4, d5, d6] => { results := [.lit (.bool false)], args := [d1, d2, d3, d4, d5, d6] }
  | _ => none }
def ExplicitIsolatesWrongFalsely : Prop := explicitIsolatesRow.holds Try.pinned (OpenSpec.ofChange explicitIsolatesWrong)

/-- 'selvedgelaw14.ExplicitBounds': WHATEVER THE INPUT: true; the input reads as it did. -/
def explicitBoundsSpec : ChangeSpec := { name := "explicitBounds", fn := fun _ => fun
  | [d1, d2] => { results := [.lit (.bool true)], args := [d1, d2] }
  | _ => none }
def explicitBoundsRow : OpenClaim := { program := "ytdkbkecnhebanaa", sum := "b431ce5b079912be91ee56e6a9e08c0247460ae853718fce07b8e37e636fc303", func := "selvedge/selvedgelaw14.ExplicitBounds", spec := "explicitBounds", apart := false }
def ExplicitBoundsSaid : Prop := explicitBoundsRow.holds Try.pinned (OpenSpec.ofChange explicitBoundsSpec)

/-- ITS FALSE NEIGHBOUR: 'it returns false'. Refute it at one input. -/
def explicitBoundsWrong : ChangeSpec := { name := "explicitBounds", fn := fun _ => fun
  | [d1, d2] => { results := [.lit (.bool false)], args := [d1, d2] }
  | _ => none }
def ExplicitBoundsWrongFalsely : Prop := explicitBoundsRow.holds Try.pinned (OpenSpec.ofChange explicitBoundsWrong)

/-- 'selvedgelaw14.ExplicitParagraphs': WHATEVER THE INPUT: true; the input reads as it did. -/
def explicitParagraphsSpec : ChangeSpec := { name := "explicitParagraphs", fn := fun _ => fun
  | [d1, d2, d3] => { results := [.lit (.bool true)], args := [d1, d2, d3] }
  | _ => none }
def explicitParagraphsRow : OpenClaim := { program := "ytdkbkecnhebanaa", sum := "b431ce5b079912be91ee56e6a9e08c0247460ae853718fce07b8e37e636fc303", func := "selvedge/selvedgelaw14.ExplicitParagraphs", spec := "explicitParagraphs", apart := false }
def ExplicitParagraphsSaid : Prop := explicitParagraphsRow.holds Try.pinned (OpenSpec.ofChange explicitParagraphsSpec)

/-- ITS FALSE NEIGHBOUR: 'it returns false'. Refute it at one input. -/
def explicitParagraphsWrong : ChangeSpec := { name := "explicitParagraphs", fn := fun _ => fun
  | [d1, d2, d3] => { results := [.lit (.bool false)], args := [d1, d2, d3] }
  | _ => none }
def ExplicitParagraphsWrongFalsely : Prop := explicitParagraphsRow.holds Try.pinned (OpenSpec.ofChange explicitParagraphsWrong)

/-- 'selvedgelaw14.ExplicitPlain': WHATEVER THE INPUT: true; the input reads as it did. -/
def explicitPlainSpec : ChangeSpec := { name := "explicitPlain", fn := fun _ => fun
  | [d1, d2] => { results := [.lit (.bool true)], args := [d1, d2] }
  | _ => none }
def explicitPlainRow : OpenClaim := { program := "ytdkbkecnhebanaa", sum := "b431ce5b079912be91ee56e6a9e08c0247460ae853718fce07b8e37e636fc303", func := "selvedge/selvedgelaw14.ExplicitPlain", spec := "explicitPlain", apart := false }
def ExplicitPlainSaid : Prop := explicitPlainRow.holds Try.pinned (OpenSpec.ofChange explicitPlainSpec)

/-- ITS FALSE NEIGHBOUR: 'it returns false'. Refute it at one input. -/
def explicitPlainWrong : ChangeSpec := { name := "explicitPlain", fn := fun _ => fun
  | [d1, d2] => { results := [.lit (.bool false)], args := [d1, d2] }
  | _ => none }
def ExplicitPlainWrongFalsely : Prop := explicitPlainRow.holds Try.pinned (OpenSpec.ofChange explicitPlainWrong)

/-- 'selvedgelaw14.ExplicitKnown': WHATEVER THE INPUT: true; the input reads as it did. -/
def explicitKnownSpec : ChangeSpec := { name := "explicitKnown", fn := fun _ => fun
  | [] => { results := [.lit (.bool true)], args := [] }
  | _ => none }
def explicitKnownRow : OpenClaim := { program := "ytdkbkecnhebanaa", sum := "b431ce5b079912be91ee56e6a9e08c0247460ae853718fce07b8e37e636fc303", func := "selvedge/selvedgelaw14.ExplicitKnown", spec := "explicitKnown", apart := false }
def ExplicitKnownSaid : Prop := explicitKnownRow.holds Try.pinned (OpenSpec.ofChange explicitKnownSpec)

/-- ITS FALSE NEIGHBOUR: 'it returns false'. Refute it at one input. -/
def explicitKnownWrong : ChangeSpec := { name := "explicitKnown", fn := fun _ => fun
  | [] => { results := [.lit (.bool false)], args := [] }
  | _ => none }
def ExplicitKnownWrongFalsely : Prop := explicitKnownRow.holds Try.pinned (OpenSpec.ofChange explicitKnownWrong)

/- THE SECOND FORM. 'bulk': how many values and letters a reading holds, each counted each time it is reached (what is shared counts as often as it is met; a slice's spare places count too). A statement '..UptoSaid' is the law's where the arguments, and the package variables that the reading takes, are together of bulk at most 1048576: NARROWER than '..Said'. Prove '..Said' where nothing that the law and all that it calls make is longer than what came in: it says more and counts as full. Else prove '..UptoSaid'. A law counts once. -/
mutual
def uptoBulk {H : Type} : DataW H → Nat
  | .lit (.string bytes) => bytes.length + 1
  | .lit _ => 1
  | .nil => 1
  | .ptr d => uptoBulk d + 1
  | .slice elems spare => uptoBulkAll elems + uptoBulkAll spare + 1
  | .agg parts => uptoBulkAll parts + 1
  | .iface _ d => uptoBulk d + 1
  | .map entries => uptoBulkEntries entries + 1
  | .held _ => 1
def uptoBulkAll {H : Type} : List (DataW H) → Nat
  | [] => 0
  | d :: r => uptoBulk d + uptoBulkAll r
def uptoBulkEntries {H : Type} : List (Lit × DataW H) → Nat
  | [] => 0
  | x :: r => uptoBulkEntry x + uptoBulkEntries r
def uptoBulkEntry {H : Type} : Lit × DataW H → Nat
  | (.string bytes, d) => bytes.length + uptoBulk d + 1
  | (_, d) => uptoBulk d + 1
 end
def uptoSmall : (H : Type) → List (DataW H) → Bool := fun _ ds => decide (uptoBulkAll ds ≤ 1048576)
def OpenSpec.upto (s : _root_.Go.ChangeSpec) : _root_.Go.OpenSpec := { _root_.Go.OpenSpec.ofChange s with cond := some uptoSmall }

/-- 'selvedgelaw14.ExplicitMatches', WHERE WHAT IT READS IS OF BULK AT MOST 1048576: true; the input reads as it did. -/
def explicitMatchesUptoRow : OpenClaim := { program := "ytdkbkecnhebanaa", sum := "b431ce5b079912be91ee56e6a9e08c0247460ae853718fce07b8e37e636fc303", func := "selvedge/selvedgelaw14.ExplicitMatches", spec := "explicitMatches", apart := false, narrowed := true }
def ExplicitMatchesUptoSaid : Prop := explicitMatchesUptoRow.holds Try.pinned (OpenSpec.upto explicitMatchesSpec)

/-- 'selvedgelaw14.ExplicitLevels', WHERE WHAT IT READS IS OF BULK AT MOST 1048576: true; the input reads as it did. -/
def explicitLevelsUptoRow : OpenClaim := { program := "ytdkbkecnhebanaa", sum := "b431ce5b079912be91ee56e6a9e08c0247460ae853718fce07b8e37e636fc303", func := "selvedge/selvedgelaw14.ExplicitLevels", spec := "explicitLevels", apart := false, narrowed := true }
def ExplicitLevelsUptoSaid : Prop := explicitLevelsUptoRow.holds Try.pinned (OpenSpec.upto explicitLevelsSpec)

/-- 'selvedgelaw14.ExplicitIsolates', WHERE WHAT IT READS IS OF BULK AT MOST 1048576: true; the input reads as it did. -/
def explicitIsolatesUptoRow : OpenClaim := { program := "ytdkbkecnhebanaa", sum := "b431ce5b079912be91ee56e6a9e08c0247460ae853718fce07b8e37e636fc303", func := "selvedge/selvedgelaw14.ExplicitIsolates", spec := "explicitIsolates", apart := false, narrowed := true }
def ExplicitIsolatesUptoSaid : Prop := explicitIsolatesUptoRow.holds Try.pinned (OpenSpec.upto explicitIsolatesSpec)

/-- 'selvedgelaw14.ExplicitBounds', WHERE WHAT IT READS IS OF BULK AT MOST 1048576: true; the input reads as it did. -/
def explicitBoundsUptoRow : OpenClaim := { program := "ytdkbkecnhebanaa", sum := "b431ce5b079912be91ee56e6a9e08c0247460ae853718fce07b8e37e636fc303", func := "selvedge/selvedgelaw14.ExplicitBounds", spec := "explicitBounds", apart := false, narrowed := true }
def ExplicitBoundsUptoSaid : Prop := explicitBoundsUptoRow.holds Try.pinned (OpenSpec.upto explicitBoundsSpec)

/-- 'selvedgelaw14.ExplicitParagraphs', WHERE WHAT IT READS IS OF BULK AT MOST 1048576: true; the input reads as it did. -/
def explicitParagraphsUptoRow : OpenClaim := { program := "ytdkbkecnhebanaa", sum := "b431ce5b079912be91ee56e6a9e08c0247460ae853718fce07b8e37e636fc303", func := "selvedge/selvedgelaw14.ExplicitParagraphs", spec := "explicitParagraphs", apart := false, narrowed := true }
def ExplicitParagraphsUptoSaid : Prop := explicitParagraphsUptoRow.holds Try.pinned (OpenSpec.upto explicitParagraphsSpec)

/-- 'selvedgelaw14.ExplicitPlain', WHERE WHAT IT READS IS OF BULK AT MOST 1048576: true; the input reads as it did. -/
def explicitPlainUptoRow : OpenClaim := { program := "ytdkbkecnhebanaa", sum := "b431ce5b079912be91ee56e6a9e08c0247460ae853718fce07b8e37e636fc303", func := "selvedge/selvedgelaw14.ExplicitPlain", spec := "explicitPlain", apart := false, narrowed := true }
def ExplicitPlainUptoSaid : Prop := explicitPlainUptoRow.holds Try.pinned (OpenSpec.upto explicitPlainSpec)

/-- 'selvedgelaw14.ExplicitKnown', WHERE WHAT IT READS IS OF BULK AT MOST 1048576: true; the input reads as it did. -/
def explicitKnownUptoRow : OpenClaim := { program := "ytdkbkecnhebanaa", sum := "b431ce5b079912be91ee56e6a9e08c0247460ae853718fce07b8e37e636fc303", func := "selvedge/selvedgelaw14.ExplicitKnown", spec := "explicitKnown", apart := false, narrowed := true }
def ExplicitKnownUptoSaid : Prop := explicitKnownUptoRow.holds Try.pinned (OpenSpec.upto explicitKnownSpec)

end Rows
end Go.Proofs.Ytdkbkecnhebanaa
