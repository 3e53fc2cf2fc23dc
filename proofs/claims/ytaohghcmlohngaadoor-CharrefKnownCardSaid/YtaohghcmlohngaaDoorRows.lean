/-
  NARROWER THAN 'FOR EVERY INPUT', by the rows' own cells (each row's printed sentence says how): CharrefFinds: laid · CharrefDecodes: laid · CharrefBack: laid · CharrefNumbers: laid · CharrefPieces: laid · CharrefNames: laid · CharrefKnown: laid.
  DERIVED. THE GIVEN ROWS OF THIS SEAT. 7 by the template 'for every input the law returns true; each argument reads behind the call as it read before'; 0 by the template 'total and deterministic' (their statements: YtaohghcmlohngaaDoorTotals.lean).
  GIVEN WITH THE SEED: the statements are not yours to turn. If you find one false, say at which input.
  Laid BY PROGRAM, IN A SANDBOX (cutbox-rows.mjs): the forced cells as the released guide's own fill.sh prints them over the translation 0880243cba770034… (all of the seat's roots in one cut). By AI agents, Wed Nov 11 2026. No macro, syntax, notation, axiom, sorry.
-/
import Derived.Test.YtaohghcmlohngaaDoorChecked
import GoSem.Claim
import GoSem.ClaimJoined
import GoSem.ClaimMapViews
import Derived.JoinedTies
import Derived.KernelRfl
namespace Go.Proofs.YtaohghcmlohngaaDoor
/- THE CELL 'sum', in the pinned program and in every row, IS THE sha256 OF THE DUMP (.gsa) THAT YtaohghcmlohngaaDoorProg.lean LOADS. Nothing in Lean hashes anything: it is a label: what it is worth is what the hold of that sum in a sandbox is worth. -/
noncomputable def Tryd.pinned : Pinned := { name := "ytaohghcmlohngaadoor", sum := "0880243cba770034657b46b4f58ee365519bce9b0fe698d9296f108836945004", checked := Tryd.checked }
namespace Rows
def none {H : Type} : Left H := { results := [], args := [] }

/- WHAT THE LISTED PACKAGE-LEVEL VARIABLES READ AS WHEN THE CALL BEGINS. Each datum BY PROGRAM (the guide's laid-datum.mjs) off the statement by which the dump's own 'gosem.cut.vars' lays the variable. In a bare row this is a premise. The card (YtaohghcmlohngaaDoorCards.lean) ties it to the program's text. -/
def laid_selvedge_charref_names {H : Type} : DataW H := .agg [.agg [.lit (.string [65, 77, 80]), .lit (.int .i32 38), .lit (.bool true)], .agg [.lit (.string [67, 79, 80, 89]), .lit (.int .i32 169), .lit (.bool true)], .agg [.lit (.string [71, 84]), .lit (.int .i32 62), .lit (.bool true)], .agg [.lit (.string [76, 84]), .lit (.int .i32 60), .lit (.bool true)], .agg [.lit (.string [81, 85, 79, 84]), .lit (.int .i32 34), .lit (.bool true)], .agg [.lit (.string [82, 69, 71]), .lit (.int .i32 174), .lit (.bool true)], .agg [.lit (.string [97, 109, 112]), .lit (.int .i32 38), .lit (.bool true)], .agg [.lit (.string [97, 112, 111, 115]), .lit (.int .i32 39), .lit (.bool false)], .agg [.lit (.string [98, 117, 108, 108]), .lit (.int .i32 8226), .lit (.bool false)], .agg [.lit (.string [99, 101, 110, 116]), .lit (.int .i32 162), .lit (.bool true)], .agg [.lit (.string [99, 111, 112, 121]), .lit (.int .i32 169), .lit (.bool true)], .agg [.lit (.string [100, 97, 114, 114]), .lit (.int .i32 8595), .lit (.bool false)], .agg [.lit (.string [100, 101, 103]), .lit (.int .i32 176), .lit (.bool true)], .agg [.lit (.string [100, 105, 118, 105, 100, 101]), .lit (.int .i32 247), .lit (.bool true)], .agg [.lit (.string [101, 109, 115, 112]), .lit (.int .i32 8195), .lit (.bool false)], .agg [.lit (.string [101, 110, 115, 112]), .lit (.int .i32 8194), .lit (.bool false)], .agg [.lit (.string [101, 117, 114, 111]), .lit (.int .i32 8364), .lit (.bool false)], .agg [.lit (.string [103, 101]), .lit (.int .i32 8805), .lit (.bool false)], .agg [.lit (.string [103, 116]), .lit (.int .i32 62), .lit (.bool true)], .agg [.lit (.string [104, 101, 108, 108, 105, 112]), .lit (.int .i32 8230), .lit (.bool false)], .agg [.lit (.string [105, 110]), .lit (.int .i32 8712), .lit (.bool false)], .agg [.lit (.string [105, 110, 102, 105, 110]), .lit (.int .i32 8734), .lit (.bool false)], .agg [.lit (.string [108, 97, 110, 103]), .lit (.int .i32 10216), .lit (.bool false)], .agg [.lit (.string [108, 97, 113, 117, 111]), .lit (.int .i32 171), .lit (.bool true)], .agg [.lit (.string [108, 97, 114, 114]), .lit (.int .i32 8592), .lit (.bool false)], .agg [.lit (.string [108, 100, 113, 117, 111]), .lit (.int .i32 8220), .lit (.bool false)], .agg [.lit (.string [108, 101]), .lit (.int .i32 8804), .lit (.bool false)], .agg [.lit (.string [108, 114, 109]), .lit (.int .i32 8206), .lit (.bool false)], .agg [.lit (.string [108, 115, 97, 113, 117, 111]), .lit (.int .i32 8249), .lit (.bool false)], .agg [.lit (.string [108, 115, 113, 117, 111]), .lit (.int .i32 8216), .lit (.bool false)], .agg [.lit (.string [108, 116]), .lit (.int .i32 60), .lit (.bool true)], .agg [.lit (.string [109, 100, 97, 115, 104]), .lit (.int .i32 8212), .lit (.bool false)], .agg [.lit (.string [109, 105, 100, 100, 111, 116]), .lit (.int .i32 183), .lit (.bool true)], .agg [.lit (.string [109, 105, 110, 117, 115]), .lit (.int .i32 8722), .lit (.bool false)], .agg [.lit (.string [110, 98, 115, 112]), .lit (.int .i32 160), .lit (.bool true)], .agg [.lit (.string [110, 100, 97, 115, 104]), .lit (.int .i32 8211), .lit (.bool false)], .agg [.lit (.string [110, 101]), .lit (.int .i32 8800), .lit (.bool false)], .agg [.lit (.string [110, 111, 116]), .lit (.int .i32 172), .lit (.bool true)], .agg [.lit (.string [110, 111, 116, 105, 110]), .lit (.int .i32 8713), .lit (.bool false)], .agg [.lit (.string [112, 97, 114, 97]), .lit (.int .i32 182), .lit (.bool true)], .agg [.lit (.string [112, 108, 117, 115, 109, 110]), .lit (.int .i32 177), .lit (.bool true)], .agg [.lit (.string [112, 111, 117, 110, 100]), .lit (.int .i32 163), .lit (.bool true)], .agg [.lit (.string [113, 117, 111, 116]), .lit (.int .i32 34), .lit (.bool true)], .agg [.lit (.string [114, 97, 110, 103]), .lit (.int .i32 10217), .lit (.bool false)], .agg [.lit (.string [114, 97, 113, 117, 111]), .lit (.int .i32 187), .lit (.bool true)], .agg [.lit (.string [114, 97, 114, 114]), .lit (.int .i32 8594), .lit (.bool false)], .agg [.lit (.string [114, 100, 113, 117, 111]), .lit (.int .i32 8221), .lit (.bool false)], .agg [.lit (.string [114, 101, 103]), .lit (.int .i32 174), .lit (.bool true)], .agg [.lit (.string [114, 108, 109]), .lit (.int .i32 8207), .lit (.bool false)], .agg [.lit (.string [114, 115, 97, 113, 117, 111]), .lit (.int .i32 8250), .lit (.bool false)], .agg [.lit (.string [114, 115, 113, 117, 111]), .lit (.int .i32 8217), .lit (.bool false)], .agg [.lit (.string [115, 101, 99, 116]), .lit (.int .i32 167), .lit (.bool true)], .agg [.lit (.string [115, 104, 121]), .lit (.int .i32 173), .lit (.bool true)], .agg [.lit (.string [116, 104, 105, 110, 115, 112]), .lit (.int .i32 8201), .lit (.bool false)], .agg [.lit (.string [116, 105, 109, 101, 115]), .lit (.int .i32 215), .lit (.bool true)], .agg [.lit (.string [117, 97, 114, 114]), .lit (.int .i32 8593), .lit (.bool false)], .agg [.lit (.string [121, 101, 110]), .lit (.int .i32 165), .lit (.bool true)], .agg [.lit (.string [122, 119, 106]), .lit (.int .i32 8205), .lit (.bool false)], .agg [.lit (.string [122, 119, 110, 106]), .lit (.int .i32 8204), .lit (.bool false)]]
def laid_selvedge_charref_others {H : Type} : DataW H := .agg [.lit (.int .i32 8364), .lit (.int .i32 0), .lit (.int .i32 8218), .lit (.int .i32 402), .lit (.int .i32 8222), .lit (.int .i32 8230), .lit (.int .i32 8224), .lit (.int .i32 8225), .lit (.int .i32 710), .lit (.int .i32 8240), .lit (.int .i32 352), .lit (.int .i32 8249), .lit (.int .i32 338), .lit (.int .i32 0), .lit (.int .i32 381), .lit (.int .i32 0), .lit (.int .i32 0), .lit (.int .i32 8216), .lit (.int .i32 8217), .lit (.int .i32 8220), .lit (.int .i32 8221), .lit (.int .i32 8226), .lit (.int .i32 8211), .lit (.int .i32 8212), .lit (.int .i32 732), .lit (.int .i32 8482), .lit (.int .i32 353), .lit (.int .i32 8250), .lit (.int .i32 339), .lit (.int .i32 0), .lit (.int .i32 382), .lit (.int .i32 376)]

/-- 'selvedgelaw03.CharrefFinds': WHATEVER THE INPUT: true; the input reads as it did. -/
def charrefFindsSpec : ChangeSpec := { name := "charrefFinds", fn := fun _ => fun
  | [d1, d2, d3, d4] => { results := [.lit (.bool true)], args := [d1, d2, d3, d4] }
  | _ => none }
def charrefFindsRow : OpenClaim := { program := "ytaohghcmlohngaadoor", sum := "0880243cba770034657b46b4f58ee365519bce9b0fe698d9296f108836945004", func := "selvedge/selvedgelaw03.CharrefFinds", spec := "charrefFinds", inPlace := ["internal/bytealg.IndexByteString", "internal/abi.NoEscape", "internal/bytealg.abigen_runtime_cmpstring"], unfollowed := true, recurses := true, named := ["selvedge/charref.names", "selvedge/charref.others"], apart := false, laid := [("selvedge/charref.names", laid_selvedge_charref_names), ("selvedge/charref.others", laid_selvedge_charref_others)] }
def CharrefFindsSaid : Prop := charrefFindsRow.holds Tryd.pinned (OpenSpec.ofChange charrefFindsSpec)

/-- ITS FALSE NEIGHBOUR: 'it returns false'. Refute it at one input. -/
def charrefFindsWrong : ChangeSpec := { name := "charrefFinds", fn := fun _ => fun
  | [d1, d2, d3, d4] => { results := [.lit (.bool false)], args := [d1, d2, d3, d4] }
  | _ => none }
def CharrefFindsWrongFalsely : Prop := charrefFindsRow.holds Tryd.pinned (OpenSpec.ofChange charrefFindsWrong)

/-- 'selvedgelaw03.CharrefDecodes': WHATEVER THE INPUT: true; the input reads as it did. -/
def charrefDecodesSpec : ChangeSpec := { name := "charrefDecodes", fn := fun _ => fun
  | [d1, d2] => { results := [.lit (.bool true)], args := [d1, d2] }
  | _ => none }
def charrefDecodesRow : OpenClaim := { program := "ytaohghcmlohngaadoor", sum := "0880243cba770034657b46b4f58ee365519bce9b0fe698d9296f108836945004", func := "selvedge/selvedgelaw03.CharrefDecodes", spec := "charrefDecodes", inPlace := ["internal/bytealg.IndexByteString", "internal/abi.NoEscape", "internal/bytealg.abigen_runtime_cmpstring"], unfollowed := true, recurses := true, named := ["selvedge/charref.names", "selvedge/charref.others"], apart := false, laid := [("selvedge/charref.names", laid_selvedge_charref_names), ("selvedge/charref.others", laid_selvedge_charref_others)] }
def CharrefDecodesSaid : Prop := charrefDecodesRow.holds Tryd.pinned (OpenSpec.ofChange charrefDecodesSpec)

/-- ITS FALSE NEIGHBOUR: 'it returns false'. Refute it at one input. -/
def charrefDecodesWrong : ChangeSpec := { name := "charrefDecodes", fn := fun _ => fun
  | [d1, d2] => { results := [.lit (.bool false)], args := [d1, d2] }
  | _ => none }
def CharrefDecodesWrongFalsely : Prop := charrefDecodesRow.holds Tryd.pinned (OpenSpec.ofChange charrefDecodesWrong)

/-- 'selvedgelaw03.CharrefBack': WHATEVER THE INPUT: true; the input reads as it did. -/
def charrefBackSpec : ChangeSpec := { name := "charrefBack", fn := fun _ => fun
  | [d1, d2] => { results := [.lit (.bool true)], args := [d1, d2] }
  | _ => none }
def charrefBackRow : OpenClaim := { program := "ytaohghcmlohngaadoor", sum := "0880243cba770034657b46b4f58ee365519bce9b0fe698d9296f108836945004", func := "selvedge/selvedgelaw03.CharrefBack", spec := "charrefBack", inPlace := ["internal/bytealg.IndexByteString", "internal/abi.NoEscape", "internal/bytealg.abigen_runtime_cmpstring"], unfollowed := true, recurses := true, named := ["selvedge/charref.names", "selvedge/charref.others"], apart := false, laid := [("selvedge/charref.names", laid_selvedge_charref_names), ("selvedge/charref.others", laid_selvedge_charref_others)] }
def CharrefBackSaid : Prop := charrefBackRow.holds Tryd.pinned (OpenSpec.ofChange charrefBackSpec)

/-- ITS FALSE NEIGHBOUR: 'it returns false'. Refute it at one input. -/
def charrefBackWrong : ChangeSpec := { name := "charrefBack", fn := fun _ => fun
  | [d1, d2] => { results := [.lit (.bool false)], args := [d1, d2] }
  | _ => none }
def CharrefBackWrongFalsely : Prop := charrefBackRow.holds Tryd.pinned (OpenSpec.ofChange charrefBackWrong)

/-- 'selvedgelaw03.CharrefNumbers': WHATEVER THE INPUT: true; the input reads as it did. -/
def charrefNumbersSpec : ChangeSpec := { name := "charrefNumbers", fn := fun _ => fun
  | [d1, d2] => { results := [.lit (.bool true)], args := [d1, d2] }
  | _ => none }
def charrefNumbersRow : OpenClaim := { program := "ytaohghcmlohngaadoor", sum := "0880243cba770034657b46b4f58ee365519bce9b0fe698d9296f108836945004", func := "selvedge/selvedgelaw03.CharrefNumbers", spec := "charrefNumbers", inPlace := ["internal/bytealg.IndexByteString", "internal/abi.NoEscape", "internal/bytealg.abigen_runtime_cmpstring"], unfollowed := true, recurses := true, named := ["selvedge/charref.names", "selvedge/charref.others"], apart := false, laid := [("selvedge/charref.names", laid_selvedge_charref_names), ("selvedge/charref.others", laid_selvedge_charref_others)] }
def CharrefNumbersSaid : Prop := charrefNumbersRow.holds Tryd.pinned (OpenSpec.ofChange charrefNumbersSpec)

/-- ITS FALSE NEIGHBOUR: 'it returns false'. Refute it at one input. -/
def charrefNumbersWrong : ChangeSpec := { name := "charrefNumbers", fn := fun _ => fun
  | [d1, d2] => { results := [.lit (.bool false)], args := [d1, d2] }
  | _ => none }
def CharrefNumbersWrongFalsely : Prop := charrefNumbersRow.holds Tryd.pinned (OpenSpec.ofChange charrefNumbersWrong)

/-- 'selvedgelaw03.CharrefPieces': WHATEVER THE INPUT: true; the input reads as it did. -/
def charrefPiecesSpec : ChangeSpec := { name := "charrefPieces", fn := fun _ => fun
  | [d1, d2, d3] => { results := [.lit (.bool true)], args := [d1, d2, d3] }
  | _ => none }
def charrefPiecesRow : OpenClaim := { program := "ytaohghcmlohngaadoor", sum := "0880243cba770034657b46b4f58ee365519bce9b0fe698d9296f108836945004", func := "selvedge/selvedgelaw03.CharrefPieces", spec := "charrefPieces", inPlace := ["internal/bytealg.IndexByteString", "internal/abi.NoEscape", "internal/bytealg.abigen_runtime_cmpstring"], unfollowed := true, recurses := true, named := ["selvedge/charref.names", "selvedge/charref.others"], apart := false, laid := [("selvedge/charref.names", laid_selvedge_charref_names), ("selvedge/charref.others", laid_selvedge_charref_others)] }
def CharrefPiecesSaid : Prop := charrefPiecesRow.holds Tryd.pinned (OpenSpec.ofChange charrefPiecesSpec)

/-- ITS FALSE NEIGHBOUR: 'it returns false'. Refute it at one input. -/
def charrefPiecesWrong : ChangeSpec := { name := "charrefPieces", fn := fun _ => fun
  | [d1, d2, d3] => { results := [.lit (.bool false)], args := [d1, d2, d3] }
  | _ => none }
def CharrefPiecesWrongFalsely : Prop := charrefPiecesRow.holds Tryd.pinned (OpenSpec.ofChange charrefPiecesWrong)

/-- 'selvedgelaw03.CharrefNames': WHATEVER THE INPUT: true; the input reads as it did. -/
def charrefNamesSpec : ChangeSpec := { name := "charrefNames", fn := fun _ => fun
  | [d1, d2, d3, d4] => { results := [.lit (.bool true)], args := [d1, d2, d3, d4] }
  | _ => none }
def charrefNamesRow : OpenClaim := { program := "ytaohghcmlohngaadoor", sum := "0880243cba770034657b46b4f58ee365519bce9b0fe698d9296f108836945004", func := "selvedge/selvedgelaw03.CharrefNames", spec := "charrefNames", inPlace := ["internal/bytealg.IndexByteString", "internal/abi.NoEscape", "internal/bytealg.abigen_runtime_cmpstring"], unfollowed := true, recurses := true, named := ["selvedge/charref.names", "selvedge/charref.others"], apart := false, laid := [("selvedge/charref.names", laid_selvedge_charref_names), ("selvedge/charref.others", laid_selvedge_charref_others)] }
def CharrefNamesSaid : Prop := charrefNamesRow.holds Tryd.pinned (OpenSpec.ofChange charrefNamesSpec)

/-- ITS FALSE NEIGHBOUR: 'it returns false'. Refute it at one input. -/
def charrefNamesWrong : ChangeSpec := { name := "charrefNames", fn := fun _ => fun
  | [d1, d2, d3, d4] => { results := [.lit (.bool false)], args := [d1, d2, d3, d4] }
  | _ => none }
def CharrefNamesWrongFalsely : Prop := charrefNamesRow.holds Tryd.pinned (OpenSpec.ofChange charrefNamesWrong)

/-- 'selvedgelaw03.CharrefKnown': WHATEVER THE INPUT: true; the input reads as it did. -/
def charrefKnownSpec : ChangeSpec := { name := "charrefKnown", fn := fun _ => fun
  | [] => { results := [.lit (.bool true)], args := [] }
  | _ => none }
def charrefKnownRow : OpenClaim := { program := "ytaohghcmlohngaadoor", sum := "0880243cba770034657b46b4f58ee365519bce9b0fe698d9296f108836945004", func := "selvedge/selvedgelaw03.CharrefKnown", spec := "charrefKnown", inPlace := ["internal/bytealg.IndexByteString", "internal/abi.NoEscape", "internal/bytealg.abigen_runtime_cmpstring"], unfollowed := true, recurses := true, named := ["selvedge/charref.names", "selvedge/charref.others"], apart := false, laid := [("selvedge/charref.names", laid_selvedge_charref_names), ("selvedge/charref.others", laid_selvedge_charref_others)] }
def CharrefKnownSaid : Prop := charrefKnownRow.holds Tryd.pinned (OpenSpec.ofChange charrefKnownSpec)

/-- ITS FALSE NEIGHBOUR: 'it returns false'. Refute it at one input. -/
def charrefKnownWrong : ChangeSpec := { name := "charrefKnown", fn := fun _ => fun
  | [] => { results := [.lit (.bool false)], args := [] }
  | _ => none }
def CharrefKnownWrongFalsely : Prop := charrefKnownRow.holds Tryd.pinned (OpenSpec.ofChange charrefKnownWrong)

/- THE SECOND FORM. 'bulk': how many values and letters a reading holds, each counted each time it is reached (what is shared counts as often as it is met; a slice's spare places count too). A statement '..UptoSaid' is the law's where the arguments, and the package variables that the reading takes, are together of bulk at most 1048576: NARROWER than '..Said'. Prove '..Said' where nothing that the law and all that it calls make is longer than what came in: it says more and counts as full. Else prove '..UptoSaid'. A law counts once. -/
mutual
def uptoBulk {H : Type} : DataW H → Nat
  | .lit (.string bytes) => bytes.length + 1
  | .lit _ => 1
  | .nil => 1
  | .ptr d => uptoBulk d + 1
  | .slice elems spare => uptoBulkAll elems + uptoBulkAll spare + 1
  | .agg parts => uptoBulkAll parts + 1
  | .iface _ d => uptoBulk d + 1
  | .map entries => uptoBulkEntries entries + 1
  | .held _ => 1
def uptoBulkAll {H : Type} : List (DataW H) → Nat
  | [] => 0
  | d :: r => uptoBulk d + uptoBulkAll r
def uptoBulkEntries {H : Type} : List (Lit × DataW H) → Nat
  | [] => 0
  | x :: r => uptoBulkEntry x + uptoBulkEntries r
def uptoBulkEntry {H : Type} : Lit × DataW H → Nat
  | (.string bytes, d) => bytes.length + uptoBulk d + 1
  | (_, d) => uptoBulk d + 1
 end
def uptoSmall : (H : Type) → List (DataW H) → Bool := fun _ ds => decide (uptoBulkAll ds ≤ 1048576)
def OpenSpec.upto (s : _root_.Go.ChangeSpec) : _root_.Go.OpenSpec := { _root_.Go.OpenSpec.ofChange s with cond := some uptoSmall }

/-- 'selvedgelaw03.CharrefFinds', WHERE WHAT IT READS IS OF BULK AT MOST 1048576: true; the input reads as it did. -/
def charrefFindsUptoRow : OpenClaim := { program := "ytaohghcmlohngaadoor", sum := "0880243cba770034657b46b4f58ee365519bce9b0fe698d9296f108836945004", func := "selvedge/selvedgelaw03.CharrefFinds", spec := "charrefFinds", inPlace := ["internal/bytealg.IndexByteString", "internal/abi.NoEscape", "internal/bytealg.abigen_runtime_cmpstring"], unfollowed := true, recurses := true, named := ["selvedge/charref.names", "selvedge/charref.others"], apart := false, laid := [("selvedge/charref.names", laid_selvedge_charref_names), ("selvedge/charref.others", laid_selvedge_charref_others)], narrowed := true }
def CharrefFindsUptoSaid : Prop := charrefFindsUptoRow.holds Tryd.pinned (OpenSpec.upto charrefFindsSpec)

/-- 'selvedgelaw03.CharrefDecodes', WHERE WHAT IT READS IS OF BULK AT MOST 1048576: true; the input reads as it did. -/
def charrefDecodesUptoRow : OpenClaim := { program := "ytaohghcmlohngaadoor", sum := "0880243cba770034657b46b4f58ee365519bce9b0fe698d9296f108836945004", func := "selvedge/selvedgelaw03.CharrefDecodes", spec := "charrefDecodes", inPlace := ["internal/bytealg.IndexByteString", "internal/abi.NoEscape", "internal/bytealg.abigen_runtime_cmpstring"], unfollowed := true, recurses := true, named := ["selvedge/charref.names", "selvedge/charref.others"], apart := false, laid := [("selvedge/charref.names", laid_selvedge_charref_names), ("selvedge/charref.others", laid_selvedge_charref_others)], narrowed := true }
def CharrefDecodesUptoSaid : Prop := charrefDecodesUptoRow.holds Tryd.pinned (OpenSpec.upto charrefDecodesSpec)

/-- 'selvedgelaw03.CharrefBack', WHERE WHAT IT READS IS OF BULK AT MOST 1048576: true; the input reads as it did. -/
def charrefBackUptoRow : OpenClaim := { program := "ytaohghcmlohngaadoor", sum := "0880243cba770034657b46b4f58ee365519bce9b0fe698d9296f108836945004", func := "selvedge/selvedgelaw03.CharrefBack", spec := "charrefBack", inPlace := ["internal/bytealg.IndexByteString", "internal/abi.NoEscape", "internal/bytealg.abigen_runtime_cmpstring"], unfollowed := true, recurses := true, named := ["selvedge/charref.names", "selvedge/charref.others"], apart := false, laid := [("selvedge/charref.names", laid_selvedge_charref_names), ("selvedge/charref.others", laid_selvedge_charref_others)], narrowed := true }
def CharrefBackUptoSaid : Prop := charrefBackUptoRow.holds Tryd.pinned (OpenSpec.upto charrefBackSpec)

/-- 'selvedgelaw03.CharrefNumbers', WHERE WHAT IT READS IS OF BULK AT MOST 1048576: true; the input reads as it did. -/
def charrefNumbersUptoRow : OpenClaim := { program := "ytaohghcmlohngaadoor", sum := "0880243cba770034657b46b4f58ee365519bce9b0fe698d9296f108836945004", func := "selvedge/selvedgelaw03.CharrefNumbers", spec := "charrefNumbers", inPlace := ["internal/bytealg.IndexByteString", "internal/abi.NoEscape", "internal/bytealg.abigen_runtime_cmpstring"], unfollowed := true, recurses := true, named := ["selvedge/charref.names", "selvedge/charref.others"], apart := false, laid := [("selvedge/charref.names", laid_selvedge_charref_names), ("selvedge/charref.others", laid_selvedge_charref_others)], narrowed := true }
def CharrefNumbersUptoSaid : Prop := charrefNumbersUptoRow.holds Tryd.pinned (OpenSpec.upto charrefNumbersSpec)

/-- 'selvedgelaw03.CharrefPieces', WHERE WHAT IT READS IS OF BULK AT MOST 1048576: true; the input reads as it did. -/
def charrefPiecesUptoRow : OpenClaim := { program := "ytaohghcmlohngaadoor", sum := "0880243cba770034657b46b4f58ee365519bce9b0fe698d9296f108836945004", func := "selvedge/selvedgelaw03.CharrefPieces", spec := "charrefPieces", inPlace := ["internal/bytealg.IndexByteString", "internal/abi.NoEscape", "internal/bytealg.abigen_runtime_cmpstring"], unfollowed := true, recurses := true, named := ["selvedge/charref.names", "selvedge/charref.others"], apart := false, laid := [("selvedge/charref.names", laid_selvedge_charref_names), ("selvedge/charref.others", laid_selvedge_charref_others)], narrowed := true }
def CharrefPiecesUptoSaid : Prop := charrefPiecesUptoRow.holds Tryd.pinned (OpenSpec.upto charrefPiecesSpec)

/-- 'selvedgelaw03.CharrefNames', WHERE WHAT IT READS IS OF BULK AT MOST 1048576: true; the input reads as it did. -/
def charrefNamesUptoRow : OpenClaim := { program := "ytaohghcmlohngaadoor", sum := "0880243cba770034657b46b4f58ee365519bce9b0fe698d9296f108836945004", func := "selvedge/selvedgelaw03.CharrefNames", spec := "charrefNames", inPlace := ["internal/bytealg.IndexByteString", "internal/abi.NoEscape", "internal/bytealg.abigen_runtime_cmpstring"], unfollowed := true, recurses := true, named := ["selvedge/charref.names", "selvedge/charref.others"], apart := false, laid := [("selvedge/charref.names", laid_selvedge_charref_names), ("selvedge/charref.others", laid_selvedge_charref_others)], narrowed := true }
def CharrefNamesUptoSaid : Prop := charrefNamesUptoRow.holds Tryd.pinned (OpenSpec.upto charrefNamesSpec)

/-- 'selvedgelaw03.CharrefKnown', WHERE WHAT IT READS IS OF BULK AT MOST 1048576: true; the input reads as it did. -/
def charrefKnownUptoRow : OpenClaim := { program := "ytaohghcmlohngaadoor", sum := "0880243cba770034657b46b4f58ee365519bce9b0fe698d9296f108836945004", func := "selvedge/selvedgelaw03.CharrefKnown", spec := "charrefKnown", inPlace := ["internal/bytealg.IndexByteString", "internal/abi.NoEscape", "internal/bytealg.abigen_runtime_cmpstring"], unfollowed := true, recurses := true, named := ["selvedge/charref.names", "selvedge/charref.others"], apart := false, laid := [("selvedge/charref.names", laid_selvedge_charref_names), ("selvedge/charref.others", laid_selvedge_charref_others)], narrowed := true }
def CharrefKnownUptoSaid : Prop := charrefKnownUptoRow.holds Tryd.pinned (OpenSpec.upto charrefKnownSpec)

end Rows
end Go.Proofs.YtaohghcmlohngaaDoor
