/-
  No cell of these rows narrows 'for every input' (looked for: loops, veiled, ifaces, maps, wideKeys, modest, calm, conditions, laid).
  DERIVED. THE GIVEN ROWS OF THIS SEAT. 7 by the template 'for every input the law returns true; each argument reads behind the call as it read before'; 0 by the template 'total and deterministic' (their statements: YthckihfkhmoafaaTotals.lean).
  GIVEN WITH THE SEED: the statements are not yours to turn. If you find one false, say at which input.
  Laid BY PROGRAM, IN A SANDBOX (cutbox-rows.mjs): the forced cells as the released guide's own fill.sh prints them over the translation 9901ddadca784783… (all of the seat's roots in one cut). By AI agents, Wed Nov 11 2026. No macro, syntax, notation, axiom, sorry.
-/
import Derived.Test.YthckihfkhmoafaaChecked
import GoSem.Claim
import GoSem.ClaimJoined
import GoSem.ClaimMapViews
import Derived.JoinedTies
import Derived.KernelRfl
namespace Go.Proofs.Ythckihfkhmoafaa
/- THE CELL 'sum', in the pinned program and in every row, IS THE sha256 OF THE DUMP (.gsa) THAT YthckihfkhmoafaaProg.lean LOADS. Nothing in Lean hashes anything: it is a label: what it is worth is what the hold of that sum in a sandbox is worth. -/
noncomputable def Try.pinned : Pinned := { name := "ythckihfkhmoafaa", sum := "9901ddadca784783c6f25e965d3a6bd9b91014832fc5508b94b0e8527b715b7d", checked := Try.checked }
namespace Rows
def none {H : Type} : Left H := { results := [], args := [] }

/-- 'selvedgelaw21.BreaksMeasures': WHATEVER THE INPUT: true; the input reads as it did. -/
def breaksMeasuresSpec : ChangeSpec := { name := "breaksMeasures", fn := fun _ => fun
  | [d1, d2, d3] => { results := [.lit (.bool true)], args := [d1, d2, d3] }
  | _ => none }
def breaksMeasuresRow : OpenClaim := { program := "ythckihfkhmoafaa", sum := "9901ddadca784783c6f25e965d3a6bd9b91014832fc5508b94b0e8527b715b7d", func := "selvedge/selvedgelaw21.BreaksMeasures", spec := "breaksMeasures", unfollowed := true, recurses := true, apart := false }
def BreaksMeasuresSaid : Prop := breaksMeasuresRow.holds Try.pinned (OpenSpec.ofChange breaksMeasuresSpec)

/-- ITS FALSE NEIGHBOUR: 'it returns false'. Refute it at one input. -/
def breaksMeasuresWrong : ChangeSpec := { name := "breaksMeasures", fn := fun _ => fun
  | [d1, d2, d3] => { results := [.lit (.bool false)], args := [d1, d2, d3] }
  | _ => none }
def BreaksMeasuresWrongFalsely : Prop := breaksMeasuresRow.holds Try.pinned (OpenSpec.ofChange breaksMeasuresWrong)

/-- 'selvedgelaw21.BreaksAgain': WHATEVER THE INPUT: true; the input reads as it did. -/
def breaksAgainSpec : ChangeSpec := { name := "breaksAgain", fn := fun _ => fun
  | [d1, d2, d3] => { results := [.lit (.bool true)], args := [d1, d2, d3] }
  | _ => none }
def breaksAgainRow : OpenClaim := { program := "ythckihfkhmoafaa", sum := "9901ddadca784783c6f25e965d3a6bd9b91014832fc5508b94b0e8527b715b7d", func := "selvedge/selvedgelaw21.BreaksAgain", spec := "breaksAgain", unfollowed := true, recurses := true, apart := false }
def BreaksAgainSaid : Prop := breaksAgainRow.holds Try.pinned (OpenSpec.ofChange breaksAgainSpec)

/-- ITS FALSE NEIGHBOUR: 'it returns false'. Refute it at one input. -/
def breaksAgainWrong : ChangeSpec := { name := "breaksAgain", fn := fun _ => fun
  | [d1, d2, d3] => { results := [.lit (.bool false)], args := [d1, d2, d3] }
  | _ => none }
def BreaksAgainWrongFalsely : Prop := breaksAgainRow.holds Try.pinned (OpenSpec.ofChange breaksAgainWrong)

/-- 'selvedgelaw21.BreaksWide': WHATEVER THE INPUT: true; the input reads as it did. -/
def breaksWideSpec : ChangeSpec := { name := "breaksWide", fn := fun _ => fun
  | [d] => { results := [.lit (.bool true)], args := [d] }
  | _ => none }
def breaksWideRow : OpenClaim := { program := "ythckihfkhmoafaa", sum := "9901ddadca784783c6f25e965d3a6bd9b91014832fc5508b94b0e8527b715b7d", func := "selvedge/selvedgelaw21.BreaksWide", spec := "breaksWide", unfollowed := true, recurses := true, apart := false }
def BreaksWideSaid : Prop := breaksWideRow.holds Try.pinned (OpenSpec.ofChange breaksWideSpec)

/-- ITS FALSE NEIGHBOUR: 'it returns false'. Refute it at one input. -/
def breaksWideWrong : ChangeSpec := { name := "breaksWide", fn := fun _ => fun
  | [d] => { results := [.lit (.bool false)], args := [d] }
  | _ => none }
def BreaksWideWrongFalsely : Prop := breaksWideRow.holds Try.pinned (OpenSpec.ofChange breaksWideWrong)

/-- 'selvedgelaw21.BreaksSums': WHATEVER THE INPUT: true; the input reads as it did. -/
def breaksSumsSpec : ChangeSpec := { name := "breaksSums", fn := fun _ => fun
  | [d1, d2, d3] => { results := [.lit (.bool true)], args := [d1, d2, d3] }
  | _ => none }
def breaksSumsRow : OpenClaim := { program := "ythckihfkhmoafaa", sum := "9901ddadca784783c6f25e965d3a6bd9b91014832fc5508b94b0e8527b715b7d", func := "selvedge/selvedgelaw21.BreaksSums", spec := "breaksSums", unfollowed := true, recurses := true, apart := false }
def BreaksSumsSaid : Prop := breaksSumsRow.holds Try.pinned (OpenSpec.ofChange breaksSumsSpec)

/-- ITS FALSE NEIGHBOUR: 'it returns false'. Refute it at one input. -/
def breaksSumsWrong : ChangeSpec := { name := "breaksSums", fn := fun _ => fun
  | [d1, d2, d3] => { results := [.lit (.bool false)], args := [d1, d2, d3] }
  | _ => none }
def BreaksSumsWrongFalsely : Prop := breaksSumsRow.holds Try.pinned (OpenSpec.ofChange breaksSumsWrong)

/-- 'selvedgelaw21.BreaksLines': WHATEVER THE INPUT: true; the input reads as it did. -/
def breaksLinesSpec : ChangeSpec := { name := "breaksLines", fn := fun _ => fun
  | [d1, d2] => { results := [.lit (.bool true)], args := [d1, d2] }
  | _ => none }
def breaksLinesRow : OpenClaim := { program := "ythckihfkhmoafaa", sum := "9901ddadca784783c6f25e965d3a6bd9b91014832fc5508b94b0e8527b715b7d", func := "selvedge/selvedgelaw21.BreaksLines", spec := "breaksLines", unfollowed := true, recurses := true, apart := false }
def BreaksLinesSaid : Prop := breaksLinesRow.holds Try.pinned (OpenSpec.ofChange breaksLinesSpec)

/-- ITS FALSE NEIGHBOUR: 'it returns false'. Refute it at one input. -/
def breaksLinesWrong : ChangeSpec := { name := "breaksLines", fn := fun _ => fun
  | [d1, d2] => { results := [.lit (.bool false)], args := [d1, d2] }
  | _ => none }
def BreaksLinesWrongFalsely : Prop := breaksLinesRow.holds Try.pinned (OpenSpec.ofChange breaksLinesWrong)

/-- 'selvedgelaw21.BreaksFit': WHATEVER THE INPUT: true; the input reads as it did. -/
def breaksFitSpec : ChangeSpec := { name := "breaksFit", fn := fun _ => fun
  | [d1, d2, d3] => { results := [.lit (.bool true)], args := [d1, d2, d3] }
  | _ => none }
def breaksFitRow : OpenClaim := { program := "ythckihfkhmoafaa", sum := "9901ddadca784783c6f25e965d3a6bd9b91014832fc5508b94b0e8527b715b7d", func := "selvedge/selvedgelaw21.BreaksFit", spec := "breaksFit", unfollowed := true, recurses := true, apart := false }
def BreaksFitSaid : Prop := breaksFitRow.holds Try.pinned (OpenSpec.ofChange breaksFitSpec)

/-- ITS FALSE NEIGHBOUR: 'it returns false'. Refute it at one input. -/
def breaksFitWrong : ChangeSpec := { name := "breaksFit", fn := fun _ => fun
  | [d1, d2, d3] => { results := [.lit (.bool false)], args := [d1, d2, d3] }
  | _ => none }
def BreaksFitWrongFalsely : Prop := breaksFitRow.holds Try.pinned (OpenSpec.ofChange breaksFitWrong)

/-- 'selvedgelaw21.BreaksKnown': WHATEVER THE INPUT: true; the input reads as it did. -/
def breaksKnownSpec : ChangeSpec := { name := "breaksKnown", fn := fun _ => fun
  | [] => { results := [.lit (.bool true)], args := [] }
  | _ => none }
def breaksKnownRow : OpenClaim := { program := "ythckihfkhmoafaa", sum := "9901ddadca784783c6f25e965d3a6bd9b91014832fc5508b94b0e8527b715b7d", func := "selvedge/selvedgelaw21.BreaksKnown", spec := "breaksKnown", unfollowed := true, recurses := true, apart := false }
def BreaksKnownSaid : Prop := breaksKnownRow.holds Try.pinned (OpenSpec.ofChange breaksKnownSpec)

/-- ITS FALSE NEIGHBOUR: 'it returns false'. Refute it at one input. -/
def breaksKnownWrong : ChangeSpec := { name := "breaksKnown", fn := fun _ => fun
  | [] => { results := [.lit (.bool false)], args := [] }
  | _ => none }
def BreaksKnownWrongFalsely : Prop := breaksKnownRow.holds Try.pinned (OpenSpec.ofChange breaksKnownWrong)

/- THE SECOND FORM. 'bulk': how many values and letters a reading holds, each counted each time it is reached (what is shared counts as often as it is met; a slice's spare places count too). A statement '..UptoSaid' is the law's where the arguments, and the package variables that the reading takes, are together of bulk at most 1048576: NARROWER than '..Said'. Prove '..Said' where nothing that the law and all that it calls make is longer than what came in: it says more and counts as full. Else prove '..UptoSaid'. A law counts once. -/
mutual
def uptoBulk {H : Type} : DataW H → Nat
  | .lit (.string bytes) => bytes.length + 1
  | .lit _ => 1
  | .nil => 1
  | .ptr d => uptoBulk d + 1
  | .slice elems spare => uptoBulkAll elems + uptoBulkAll spare + 1
  | .agg parts => uptoBulkAll parts + 1
  | .iface _ d => uptoBulk d + 1
  | .map entries => uptoBulkEntries entries + 1
  | .held _ => 1
def uptoBulkAll {H : Type} : List (DataW H) → Nat
  | [] => 0
  | d :: r => uptoBulk d + uptoBulkAll r
def uptoBulkEntries {H : Type} : List (Lit × DataW H) → Nat
  | [] => 0
  | x :: r => uptoBulkEntry x + uptoBulkEntries r
def uptoBulkEntry {H : Type} : Lit × DataW H → Nat
  | (.string bytes, d) => bytes.length + uptoBulk d + 1
  | (_, d) => uptoBulk d + 1
 end
def uptoSmall : (H : Type) → List (DataW H) → Bool := fun _ ds => decide (uptoBulkAll ds ≤ 1048576)
def OpenSpec.upto (s : _root_.Go.ChangeSpec) : _root_.Go.OpenSpec := { _root_.Go.OpenSpec.ofChange s with cond := some uptoSmall }

/-- 'selvedgelaw21.BreaksMeasures', WHERE WHAT IT READS IS OF BULK AT MOST 1048576: true; the input reads as it did. -/
def breaksMeasuresUptoRow : OpenClaim := { program := "ythckihfkhmoafaa", sum := "9901ddadca784783c6f25e965d3a6bd9b91014832fc5508b94b0e8527b715b7d", func := "selvedge/selvedgelaw21.BreaksMeasures", spec := "breaksMeasures", unfollowed := true, recurses := true, apart := false, narrowed := true }
def BreaksMeasuresUptoSaid : Prop := breaksMeasuresUptoRow.holds Try.pinned (OpenSpec.upto breaksMeasuresSpec)

/-- 'selvedgelaw21.BreaksAgain', WHERE WHAT IT READS IS OF BULK AT MOST 1048576: true; the input reads as it did. -/
def breaksAgainUptoRow : OpenClaim := { program := "ythckihfkhmoafaa", sum := "9901ddadca784783c6f25e965d3a6bd9b91014832fc5508b94b0e8527b715b7d", func := "selvedge/selvedgelaw21.BreaksAgain", spec := "breaksAgain", unfollowed := true, recurses := true, apart := false, narrowed := true }
def BreaksAgainUptoSaid : Prop := breaksAgainUptoRow.holds Try.pinned (OpenSpec.upto breaksAgainSpec)

/-- 'selvedgelaw21.BreaksWide', WHERE WHAT IT READS IS OF BULK AT MOST 1048576: true; the input reads as it did. -/
def breaksWideUptoRow : OpenClaim := { program := "ythckihfkhmoafaa", sum := "9901ddadca784783c6f25e965d3a6bd9b91014832fc5508b94b0e8527b715b7d", func := "selvedge/selvedgelaw21.BreaksWide", spec := "breaksWide", unfollowed := true, recurses := true, apart := false, narrowed := true }
def BreaksWideUptoSaid : Prop := breaksWideUptoRow.holds Try.pinned (OpenSpec.upto breaksWideSpec)

/-- 'selvedgelaw21.BreaksSums', WHERE WHAT IT READS IS OF BULK AT MOST 1048576: true; the input reads as it did. -/
def breaksSumsUptoRow : OpenClaim := { program := "ythckihfkhmoafaa", sum := "9901ddadca784783c6f25e965d3a6bd9b91014832fc5508b94b0e8527b715b7d", func := "selvedge/selvedgelaw21.BreaksSums", spec := "breaksSums", unfollowed := true, recurses := true, apart := false, narrowed := true }
def BreaksSumsUptoSaid : Prop := breaksSumsUptoRow.holds Try.pinned (OpenSpec.upto breaksSumsSpec)

/-- 'selvedgelaw21.BreaksLines', WHERE WHAT IT READS IS OF BULK AT MOST 1048576: true; the input reads as it did. -/
def breaksLinesUptoRow : OpenClaim := { program := "ythckihfkhmoafaa", sum := "9901ddadca784783c6f25e965d3a6bd9b91014832fc5508b94b0e8527b715b7d", func := "selvedge/selvedgelaw21.BreaksLines", spec := "breaksLines", unfollowed := true, recurses := true, apart := false, narrowed := true }
def BreaksLinesUptoSaid : Prop := breaksLinesUptoRow.holds Try.pinned (OpenSpec.upto breaksLinesSpec)

/-- 'selvedgelaw21.BreaksFit', WHERE WHAT IT READS IS OF BULK AT MOST 1048576: true; the input reads as it did. -/
def breaksFitUptoRow : OpenClaim := { program := "ythckihfkhmoafaa", sum := "9901ddadca784783c6f25e965d3a6bd9b91014832fc5508b94b0e8527b715b7d", func := "selvedge/selvedgelaw21.BreaksFit", spec := "breaksFit", unfollowed := true, recurses := true, apart := false, narrowed := true }
def BreaksFitUptoSaid : Prop := breaksFitUptoRow.holds Try.pinned (OpenSpec.upto breaksFitSpec)

/-- 'selvedgelaw21.BreaksKnown', WHERE WHAT IT READS IS OF BULK AT MOST 1048576: true; the input reads as it did. -/
def breaksKnownUptoRow : OpenClaim := { program := "ythckihfkhmoafaa", sum := "9901ddadca784783c6f25e965d3a6bd9b91014832fc5508b94b0e8527b715b7d", func := "selvedge/selvedgelaw21.BreaksKnown", spec := "breaksKnown", unfollowed := true, recurses := true, apart := false, narrowed := true }
def BreaksKnownUptoSaid : Prop := breaksKnownUptoRow.holds Try.pinned (OpenSpec.upto breaksKnownSpec)

end Rows
end Go.Proofs.Ythckihfkhmoafaa
