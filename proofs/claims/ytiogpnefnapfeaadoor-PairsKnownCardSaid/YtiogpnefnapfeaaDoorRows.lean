/-
  NARROWER THAN 'FOR EVERY INPUT', by the rows' own cells (each row's printed sentence says how): PairsPairs: laid · PairsResolve: laid · PairsNest: laid · PairsPlain: laid · PairsKnown: laid.
  DERIVED. THE GIVEN ROWS OF THIS SEAT. 5 by the template 'for every input the law returns true; each argument reads behind the call as it read before'; 0 by the template 'total and deterministic' (their statements: YtiogpnefnapfeaaDoorTotals.lean).
  GIVEN WITH THE SEED: the statements are not yours to turn. If you find one false, say at which input.
  Laid BY PROGRAM, IN A SANDBOX (cutbox-rows.mjs): the forced cells as the released guide's own fill.sh prints them over the translation 3b431e97be8f7955… (all of the seat's roots in one cut). By AI agents, Wed Nov 11 2026. No macro, syntax, notation, axiom, sorry.
-/
import Derived.Test.YtiogpnefnapfeaaDoorChecked
import GoSem.Claim
import GoSem.ClaimJoined
import GoSem.ClaimMapViews
import Derived.JoinedTies
import Derived.KernelRfl
namespace Go.Proofs.YtiogpnefnapfeaaDoor
/- THE CELL 'sum', in the pinned program and in every row, IS THE sha256 OF THE DUMP (.gsa) THAT YtiogpnefnapfeaaDoorProg.lean LOADS. Nothing in Lean hashes anything: it is a label: what it is worth is what the hold of that sum in a sandbox is worth. -/
noncomputable def Tryd.pinned : Pinned := { name := "ytiogpnefnapfeaadoor", sum := "3b431e97be8f79551ea6709a1ae3ac1549deafb6d37fdc29a188db4b108201df", checked := Tryd.checked }
namespace Rows
def none {H : Type} : Left H := { results := [], args := [] }

/- WHAT THE LISTED PACKAGE-LEVEL VARIABLES READ AS WHEN THE CALL BEGINS. Each datum BY PROGRAM (the guide's laid-datum.mjs) off the statement by which the dump's own 'gosem.cut.vars' lays the variable. In a bare row this is a premise. The card (YtiogpnefnapfeaaDoorCards.lean) ties it to the program's text. -/
def laid_selvedge_props_brackets {H : Type} : DataW H := .agg [.agg [.lit (.int .i32 40), .lit (.int .i32 41)], .agg [.lit (.int .i32 91), .lit (.int .i32 93)], .agg [.lit (.int .i32 123), .lit (.int .i32 125)], .agg [.lit (.int .i32 8261), .lit (.int .i32 8262)], .agg [.lit (.int .i32 8317), .lit (.int .i32 8318)], .agg [.lit (.int .i32 8333), .lit (.int .i32 8334)], .agg [.lit (.int .i32 8968), .lit (.int .i32 8969)], .agg [.lit (.int .i32 8970), .lit (.int .i32 8971)], .agg [.lit (.int .i32 9001), .lit (.int .i32 9002)], .agg [.lit (.int .i32 10214), .lit (.int .i32 10215)], .agg [.lit (.int .i32 10216), .lit (.int .i32 10217)], .agg [.lit (.int .i32 10218), .lit (.int .i32 10219)], .agg [.lit (.int .i32 10220), .lit (.int .i32 10221)], .agg [.lit (.int .i32 10222), .lit (.int .i32 10223)], .agg [.lit (.int .i32 12296), .lit (.int .i32 12297)], .agg [.lit (.int .i32 12298), .lit (.int .i32 12299)], .agg [.lit (.int .i32 12300), .lit (.int .i32 12301)], .agg [.lit (.int .i32 12302), .lit (.int .i32 12303)], .agg [.lit (.int .i32 12304), .lit (.int .i32 12305)], .agg [.lit (.int .i32 12308), .lit (.int .i32 12309)], .agg [.lit (.int .i32 12310), .lit (.int .i32 12311)], .agg [.lit (.int .i32 12312), .lit (.int .i32 12313)], .agg [.lit (.int .i32 12314), .lit (.int .i32 12315)]]

/-- 'selvedgelaw17.PairsPairs': WHATEVER THE INPUT: true; the input reads as it did. -/
def pairsPairsSpec : ChangeSpec := { name := "pairsPairs", fn := fun _ => fun
  | [d1, d2] => { results := [.lit (.bool true)], args := [d1, d2] }
  | _ => none }
def pairsPairsRow : OpenClaim := { program := "ytiogpnefnapfeaadoor", sum := "3b431e97be8f79551ea6709a1ae3ac1549deafb6d37fdc29a188db4b108201df", func := "selvedge/selvedgelaw17.PairsPairs", spec := "pairsPairs", unfollowed := true, recurses := true, named := ["selvedge/props.brackets"], apart := false, laid := [("selvedge/props.brackets", laid_selvedge_props_brackets)] }
def PairsPairsSaid : Prop := pairsPairsRow.holds Tryd.pinned (OpenSpec.ofChange pairsPairsSpec)

/-- ITS FALSE NEIGHBOUR: 'it returns false'. Refute it at one input. -/
def pairsPairsWrong : ChangeSpec := { name := "pairsPairs", fn := fun _ => fun
  | [d1, d2] => { results := [.lit (.bool false)], args := [d1, d2] }
  | _ => none }
def PairsPairsWrongFalsely : Prop := pairsPairsRow.holds Tryd.pinned (OpenSpec.ofChange pairsPairsWrong)

/-- 'selvedgelaw17.PairsResolve': WHATEVER THE INPUT: true; the input reads as it did. -/
def pairsResolveSpec : ChangeSpec := { name := "pairsResolve", fn := fun _ => fun
  | [d1, d2, d3, d4, d5] => { results := [.lit (.bool true)], args := [d1, d2, d3, d4, d5] }
  | _ => none }
def pairsResolveRow : OpenClaim := { program := "ytiogpnefnapfeaadoor", sum := "3b431e97be8f79551ea6709a1ae3ac1549deafb6d37fdc29a188db4b108201df", func := "selvedge/selvedgelaw17.PairsResolve", spec := "pairsResolve", unfollowed := true, recurses := true, named := ["selvedge/props.brackets"], apart := false, laid := [("selvedge/props.brackets", laid_selvedge_props_brackets)] }
def PairsResolveSaid : Prop := pairsResolveRow.holds Tryd.pinned (OpenSpec.ofChange pairsResolveSpec)

/-- ITS FALSE NEIGHBOUR: 'it returns false'. Refute it at one input. -/
def pairsResolveWrong : ChangeSpec := { name := "pairsResolve", fn := fun _ => fun
  | [d1, d2, d3, d4, d5] => { results := [.lit (.bool false)], args := [d1, d2, d3, d4, d5] }
  | _ => none }
def PairsResolveWrongFalsely : Prop := pairsResolveRow.holds Tryd.pinned (OpenSpec.ofChange pairsResolveWrong)

/-- 'selvedgelaw17.PairsNest': WHATEVER THE INPUT: true; the input reads as it did. -/
def pairsNestSpec : ChangeSpec := { name := "pairsNest", fn := fun _ => fun
  | [d1, d2, d3, d4, d5] => { results := [.lit (.bool true)], args := [d1, d2, d3, d4, d5] }
  | _ => none }
def pairsNestRow : OpenClaim := { program := "ytiogpnefnapfeaadoor", sum := "3b431e97be8f79551ea6709a1ae3ac1549deafb6d37fdc29a188db4b108201df", func := "selvedge/selvedgelaw17.PairsNest", spec := "pairsNest", unfollowed := true, recurses := true, named := ["selvedge/props.brackets"], apart := false, laid := [("selvedge/props.brackets", laid_selvedge_props_brackets)] }
def PairsNestSaid : Prop := pairsNestRow.holds Tryd.pinned (OpenSpec.ofChange pairsNestSpec)

/-- ITS FALSE NEIGHBOUR: 'it returns false'. Refute it at one input. -/
def pairsNestWrong : ChangeSpec := { name := "pairsNest", fn := fun _ => fun
  | [d1, d2, d3, d4, d5] => { results := [.lit (.bool false)], args := [d1, d2, d3, d4, d5] }
  | _ => none }
def PairsNestWrongFalsely : Prop := pairsNestRow.holds Tryd.pinned (OpenSpec.ofChange pairsNestWrong)

/-- 'selvedgelaw17.PairsPlain': WHATEVER THE INPUT: true; the input reads as it did. -/
def pairsPlainSpec : ChangeSpec := { name := "pairsPlain", fn := fun _ => fun
  | [d1, d2, d3, d4, d5] => { results := [.lit (.bool true)], args := [d1, d2, d3, d4, d5] }
  | _ => none }
def pairsPlainRow : OpenClaim := { program := "ytiogpnefnapfeaadoor", sum := "3b431e97be8f79551ea6709a1ae3ac1549deafb6d37fdc29a188db4b108201df", func := "selvedge/selvedgelaw17.PairsPlain", spec := "pairsPlain", unfollowed := true, recurses := true, named := ["selvedge/props.brackets"], apart := false, laid := [("selvedge/props.brackets", laid_selvedge_props_brackets)] }
def PairsPlainSaid : Prop := pairsPlainRow.holds Tryd.pinned (OpenSpec.ofChange pairsPlainSpec)

/-- ITS FALSE NEIGHBOUR: 'it returns false'. Refute it at one input. -/
def pairsPlainWrong : ChangeSpec := { name := "pairsPlain", fn := fun _ => fun
  | [d1, d2, d3, d4, d5] => { results := [.lit (.bool false)], args := [d1, d2, d3, d4, d5] }
  | _ => none }
def PairsPlainWrongFalsely : Prop := pairsPlainRow.holds Tryd.pinned (OpenSpec.ofChange pairsPlainWrong)

/-- 'selvedgelaw17.PairsKnown': WHATEVER THE INPUT: true; the input reads as it did. -/
def pairsKnownSpec : ChangeSpec := { name := "pairsKnown", fn := fun _ => fun
  | [] => { results := [.lit (.bool true)], args := [] }
  | _ => none }
def pairsKnownRow : OpenClaim := { program := "ytiogpnefnapfeaadoor", sum := "3b431e97be8f79551ea6709a1ae3ac1549deafb6d37fdc29a188db4b108201df", func := "selvedge/selvedgelaw17.PairsKnown", spec := "pairsKnown", unfollowed := true, recurses := true, named := ["selvedge/props.brackets"], apart := false, laid := [("selvedge/props.brackets", laid_selvedge_props_brackets)] }
def PairsKnownSaid : Prop := pairsKnownRow.holds Tryd.pinned (OpenSpec.ofChange pairsKnownSpec)

/-- ITS FALSE NEIGHBOUR: 'it returns false'. Refute it at one input. -/
def pairsKnownWrong : ChangeSpec := { name := "pairsKnown", fn := fun _ => fun
  | [] => { results := [.lit (.bool false)], args := [] }
  | _ => none }
def PairsKnownWrongFalsely : Prop := pairsKnownRow.holds Tryd.pinned (OpenSpec.ofChange pairsKnownWrong)

/- THE SECOND FORM. 'bulk': how many values and letters a reading holds, each counted each time it is reached (what is shared counts as often as it is met; a slice's spare places count too). A statement '..UptoSaid' is the law's where the arguments, and the package variables that the reading takes, are together of bulk at most 1048576: NARROWER than '..Said'. Prove '..Said' where nothing that the law and all that it calls make is longer than what came in: it says more and counts as full. Else prove '..UptoSaid'. A law counts once. -/
mutual
def uptoBulk {H : Type} : DataW H → Nat
  | .lit (.string bytes) => bytes.length + 1
  | .lit _ => 1
  | .nil => 1
  | .ptr d => uptoBulk d + 1
  | .slice elems spare => uptoBulkAll elems + uptoBulkAll spare + 1
  | .agg parts => uptoBulkAll parts + 1
  | .iface _ d => uptoBulk d + 1
  | .map entries => uptoBulkEntries entries + 1
  | .held _ => 1
def uptoBulkAll {H : Type} : List (DataW H) → Nat
  | [] => 0
  | d :: r => uptoBulk d + uptoBulkAll r
def uptoBulkEntries {H : Type} : List (Lit × DataW H) → Nat
  | [] => 0
  | x :: r => uptoBulkEntry x + uptoBulkEntries r
def uptoBulkEntry {H : Type} : Lit × DataW H → Nat
  | (.string bytes, d) => bytes.length + uptoBulk d + 1
  | (_, d) => uptoBulk d + 1
 end
def uptoSmall : (H : Type) → List (DataW H) → Bool := fun _ ds => decide (uptoBulkAll ds ≤ 1048576)
def OpenSpec.upto (s : _root_.Go.ChangeSpec) : _root_.Go.OpenSpec := { _root_.Go.OpenSpec.ofChange s with cond := some uptoSmall }

/-- 'selvedgelaw17.PairsPairs', WHERE WHAT IT READS IS OF BULK AT MOST 1048576: true; the input reads as it did. -/
def pairsPairsUptoRow : OpenClaim := { program := "ytiogpnefnapfeaadoor", sum := "3b431e97be8f79551ea6709a1ae3ac1549deafb6d37fdc29a188db4b108201df", func := "selvedge/selvedgelaw17.PairsPairs", spec := "pairsPairs", unfollowed := true, recurses := true, named := ["selvedge/props.brackets"], apart := false, laid := [("selvedge/props.brackets", laid_selvedge_props_brackets)], narrowed := true }
def PairsPairsUptoSaid : Prop := pairsPairsUptoRow.holds Tryd.pinned (OpenSpec.upto pairsPairsSpec)

/-- 'selvedgelaw17.PairsResolve', WHERE WHAT IT READS IS OF BULK AT MOST 1048576: true; the input reads as it did. -/
def pairsResolveUptoRow : OpenClaim := { program := "ytiogpnefnapfeaadoor", sum := "3b431e97be8f79551ea6709a1ae3ac1549deafb6d37fdc29a188db4b108201df", func := "selvedge/selvedgelaw17.PairsResolve", spec := "pairsResolve", unfollowed := true, recurses := true, named := ["selvedge/props.brackets"], apart := false, laid := [("selvedge/props.brackets", laid_selvedge_props_brackets)], narrowed := true }
def PairsResolveUptoSaid : Prop := pairsResolveUptoRow.holds Tryd.pinned (OpenSpec.upto pairsResolveSpec)

/-- 'selvedgelaw17.PairsNest', WHERE WHAT IT READS IS OF BULK AT MOST 1048576: true; the input reads as it did. -/
def pairsNestUptoRow : OpenClaim := { program := "ytiogpnefnapfeaadoor", sum := "3b431e97be8f79551ea6709a1ae3ac1549deafb6d37fdc29a188db4b108201df", func := "selvedge/selvedgelaw17.PairsNest", spec := "pairsNest", unfollowed := true, recurses := true, named := ["selvedge/props.brackets"], apart := false, laid := [("selvedge/props.brackets", laid_selvedge_props_brackets)], narrowed := true }
def PairsNestUptoSaid : Prop := pairsNestUptoRow.holds Tryd.pinned (OpenSpec.upto pairsNestSpec)

/-- 'selvedgelaw17.PairsPlain', WHERE WHAT IT READS IS OF BULK AT MOST 1048576: true; the input reads as it did. -/
def pairsPlainUptoRow : OpenClaim := { program := "ytiogpnefnapfeaadoor", sum := "3b431e97be8f79551ea6709a1ae3ac1549deafb6d37fdc29a188db4b108201df", func := "selvedge/selvedgelaw17.PairsPlain", spec := "pairsPlain", unfollowed := true, recurses := true, named := ["selvedge/props.brackets"], apart := false, laid := [("selvedge/props.brackets", laid_selvedge_props_brackets)], narrowed := true }
def PairsPlainUptoSaid : Prop := pairsPlainUptoRow.holds Tryd.pinned (OpenSpec.upto pairsPlainSpec)

/-- 'selvedgelaw17.PairsKnown', WHERE WHAT IT READS IS OF BULK AT MOST 1048576: true; the input reads as it did. -/
def pairsKnownUptoRow : OpenClaim := { program := "ytiogpnefnapfeaadoor", sum := "3b431e97be8f79551ea6709a1ae3ac1549deafb6d37fdc29a188db4b108201df", func := "selvedge/selvedgelaw17.PairsKnown", spec := "pairsKnown", unfollowed := true, recurses := true, named := ["selvedge/props.brackets"], apart := false, laid := [("selvedge/props.brackets", laid_selvedge_props_brackets)], narrowed := true }
def PairsKnownUptoSaid : Prop := pairsKnownUptoRow.holds Tryd.pinned (OpenSpec.upto pairsKnownSpec)

end Rows
end Go.Proofs.YtiogpnefnapfeaaDoor
