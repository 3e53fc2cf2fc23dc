/-
  No cell of these rows narrows 'for every input' (looked for: loops, veiled, ifaces, maps, wideKeys, modest, calm, conditions, laid).
  DERIVED. THE GIVEN ROWS OF THIS SEAT. 6 by the template 'for every input the law returns true; each argument reads behind the call as it read before'; 0 by the template 'total and deterministic' (their statements: YtnpcfiahmadkjaaTotals.lean).
  GIVEN WITH THE SEED: the statements are not yours to turn. If you find one false, say at which input.
  Laid BY PROGRAM, IN A SANDBOX (cutbox-rows.mjs): the forced cells as the released guide's own fill.sh prints them over the translation 80f15f6407827008… (all of the seat's roots in one cut). By AI agents, Wed Nov 11 2026. No macro, syntax, notation, axiom, sorry.
-/
import Derived.Test.YtnpcfiahmadkjaaChecked
import GoSem.Claim
import GoSem.ClaimJoined
import GoSem.ClaimMapViews
import Derived.JoinedTies
import Derived.KernelRfl
namespace Go.Proofs.Ytnpcfiahmadkjaa
/- THE CELL 'sum', in the pinned program and in every row, IS THE sha256 OF THE DUMP (.gsa) THAT YtnpcfiahmadkjaaProg.lean LOADS. Nothing in Lean hashes anything: it is a label: what it is worth is what the hold of that sum in a sandbox is worth. -/
noncomputable def Try.pinned : Pinned := { name := "ytnpcfiahmadkjaa", sum := "80f15f6407827008074443976a9a988e74f92ab6765165cfb3a5602cb5b06d15", checked := Try.checked }
namespace Rows
def none {H : Type} : Left H := { results := [], args := [] }

/-- 'selvedgelaw16.WeakResolves': WHATEVER THE INPUT: true; the input reads as it did. -/
def weakResolvesSpec : ChangeSpec := { name := "weakResolves", fn := fun _ => fun
  | [d1, d2] => { results := [.lit (.bool true)], args := [d1, d2] }
  | _ => none }
def weakResolvesRow : OpenClaim := { program := "ytnpcfiahmadkjaa", sum := "80f15f6407827008074443976a9a988e74f92ab6765165cfb3a5602cb5b06d15", func := "selvedge/selvedgelaw16.WeakResolves", spec := "weakResolves", unfollowed := true, recurses := true, apart := false }
def WeakResolvesSaid : Prop := weakResolvesRow.holds Try.pinned (OpenSpec.ofChange weakResolvesSpec)

/-- ITS FALSE NEIGHBOUR: 'it returns false'. Refute it at one input. -/
def weakResolvesWrong : ChangeSpec := { name := "weakResolves", fn := fun _ => fun
  | [d1, d2] => { results := [.lit (.bool false)], args := [d1, d2] }
  | _ => none }
def WeakResolvesWrongFalsely : Prop := weakResolvesRow.holds Try.pinned (OpenSpec.ofChange weakResolvesWrong)

/-- 'selvedgelaw16.WeakEnds': WHATEVER THE INPUT: true; the input reads as it did. -/
def weakEndsSpec : ChangeSpec := { name := "weakEnds", fn := fun _ => fun
  | [d1, d2] => { results := [.lit (.bool true)], args := [d1, d2] }
  | _ => none }
def weakEndsRow : OpenClaim := { program := "ytnpcfiahmadkjaa", sum := "80f15f6407827008074443976a9a988e74f92ab6765165cfb3a5602cb5b06d15", func := "selvedge/selvedgelaw16.WeakEnds", spec := "weakEnds", unfollowed := true, recurses := true, apart := false }
def WeakEndsSaid : Prop := weakEndsRow.holds Try.pinned (OpenSpec.ofChange weakEndsSpec)

/-- ITS FALSE NEIGHBOUR: 'it returns false'. Refute it at one input. -/
def weakEndsWrong : ChangeSpec := { name := "weakEnds", fn := fun _ => fun
  | [d1, d2] => { results := [.lit (.bool false)], args := [d1, d2] }
  | _ => none }
def WeakEndsWrongFalsely : Prop := weakEndsRow.holds Try.pinned (OpenSpec.ofChange weakEndsWrong)

/-- 'selvedgelaw16.WeakPassed': WHATEVER THE INPUT: true; the input reads as it did. -/
def weakPassedSpec : ChangeSpec := { name := "weakPassed", fn := fun _ => fun
  | [d1, d2, d3] => { results := [.lit (.bool true)], args := [d1, d2, d3] }
  | _ => none }
def weakPassedRow : OpenClaim := { program := "ytnpcfiahmadkjaa", sum := "80f15f6407827008074443976a9a988e74f92ab6765165cfb3a5602cb5b06d15", func := "selvedge/selvedgelaw16.WeakPassed", spec := "weakPassed", unfollowed := true, recurses := true, apart := false }
def WeakPassedSaid : Prop := weakPassedRow.holds Try.pinned (OpenSpec.ofChange weakPassedSpec)

/-- ITS FALSE NEIGHBOUR: 'it returns false'. Refute it at one input. -/
def weakPassedWrong : ChangeSpec := { name := "weakPassed", fn := fun _ => fun
  | [d1, d2, d3] => { results := [.lit (.bool false)], args := [d1, d2, d3] }
  | _ => none }
def WeakPassedWrongFalsely : Prop := weakPassedRow.holds Try.pinned (OpenSpec.ofChange weakPassedWrong)

/-- 'selvedgelaw16.WeakCuts': WHATEVER THE INPUT: true; the input reads as it did. -/
def weakCutsSpec : ChangeSpec := { name := "weakCuts", fn := fun _ => fun
  | [d1, d2, d3, d4] => { results := [.lit (.bool true)], args := [d1, d2, d3, d4] }
  | _ => none }
def weakCutsRow : OpenClaim := { program := "ytnpcfiahmadkjaa", sum := "80f15f6407827008074443976a9a988e74f92ab6765165cfb3a5602cb5b06d15", func := "selvedge/selvedgelaw16.WeakCuts", spec := "weakCuts", unfollowed := true, recurses := true, apart := false }
def WeakCutsSaid : Prop := weakCutsRow.holds Try.pinned (OpenSpec.ofChange weakCutsSpec)

/-- ITS FALSE NEIGHBOUR: 'it returns false'. Refute it at one input. -/
def weakCutsWrong : ChangeSpec := { name := "weakCuts", fn := fun _ => fun
  | [d1, d2, d3, d4] => { results := [.lit (.bool false)], args := [d1, d2, d3, d4] }
  | _ => none }
def WeakCutsWrongFalsely : Prop := weakCutsRow.holds Try.pinned (OpenSpec.ofChange weakCutsWrong)

/-- 'selvedgelaw16.WeakAgain': WHATEVER THE INPUT: true; the input reads as it did. -/
def weakAgainSpec : ChangeSpec := { name := "weakAgain", fn := fun _ => fun
  | [d1, d2] => { results := [.lit (.bool true)], args := [d1, d2] }
  | _ => none }
def weakAgainRow : OpenClaim := { program := "ytnpcfiahmadkjaa", sum := "80f15f6407827008074443976a9a988e74f92ab6765165cfb3a5602cb5b06d15", func := "selvedge/selvedgelaw16.WeakAgain", spec := "weakAgain", unfollowed := true, recurses := true, apart := false }
def WeakAgainSaid : Prop := weakAgainRow.holds Try.pinned (OpenSpec.ofChange weakAgainSpec)

/-- ITS FALSE NEIGHBOUR: 'it returns false'. Refute it at one input. -/
def weakAgainWrong : ChangeSpec := { name := "weakAgain", fn := fun _ => fun
  | [d1, d2] => { results := [.lit (.bool false)], args := [d1, d2] }
  | _ => none }
def WeakAgainWrongFalsely : Prop := weakAgainRow.holds Try.pinned (OpenSpec.ofChange weakAgainWrong)

/-- 'selvedgelaw16.WeakKnown': WHATEVER THE INPUT: true; the input reads as it did. -/
def weakKnownSpec : ChangeSpec := { name := "weakKnown", fn := fun _ => fun
  | [] => { results := [.lit (.bool true)], args := [] }
  | _ => none }
def weakKnownRow : OpenClaim := { program := "ytnpcfiahmadkjaa", sum := "80f15f6407827008074443976a9a988e74f92ab6765165cfb3a5602cb5b06d15", func := "selvedge/selvedgelaw16.WeakKnown", spec := "weakKnown", unfollowed := true, recurses := true, apart := false }
def WeakKnownSaid : Prop := weakKnownRow.holds Try.pinned (OpenSpec.ofChange weakKnownSpec)

/-- ITS FALSE NEIGHBOUR: 'it returns false'. Refute it at one input. -/
def weakKnownWrong : ChangeSpec := { name := "weakKnown", fn := fun _ => fun
  | [] => { results := [.lit (.bool false)], args := [] }
  | _ => none }
def WeakKnownWrongFalsely : Prop := weakKnownRow.holds Try.pinned (OpenSpec.ofChange weakKnownWrong)

/- THE SECOND FORM. 'bulk': how many values and letters a reading holds, each counted each time it is reached (what is shared counts as often as it is met; a slice's spare places count too). A statement '..UptoSaid' is the law's where the arguments, and the package variables that the reading takes, are together of bulk at most 1048576: NARROWER than '..Said'. Prove '..Said' where nothing that the law and all that it calls make is longer than what came in: it says more and counts as full. Else prove '..UptoSaid'. A law counts once. -/
mutual
def uptoBulk {H : Type} : DataW H → Nat
  | .lit (.string bytes) => bytes.length + 1
  | .lit _ => 1
  | .nil => 1
  | .ptr d => uptoBulk d + 1
  | .slice elems spare => uptoBulkAll elems + uptoBulkAll spare + 1
  | .agg parts => uptoBulkAll parts + 1
  | .iface _ d => uptoBulk d + 1
  | .map entries => uptoBulkEntries entries + 1
  | .held _ => 1
def uptoBulkAll {H : Type} : List (DataW H) → Nat
  | [] => 0
  | d :: r => uptoBulk d + uptoBulkAll r
def uptoBulkEntries {H : Type} : List (Lit × DataW H) → Nat
  | [] => 0
  | x :: r => uptoBulkEntry x + uptoBulkEntries r
def uptoBulkEntry {H : Type} : Lit × DataW H → Nat
  | (.string bytes, d) => bytes.length + uptoBulk d + 1
  | (_, d) => uptoBulk d + 1
 end
def uptoSmall : (H : Type) → List (DataW H) → Bool := fun _ ds => decide (uptoBulkAll ds ≤ 1048576)
def OpenSpec.upto (s : _root_.Go.ChangeSpec) : _root_.Go.OpenSpec := { _root_.Go.OpenSpec.ofChange s with cond := some uptoSmall }

/-- 'selvedgelaw16.WeakResolves', WHERE WHAT IT READS IS OF BULK AT MOST 1048576: true; the input reads as it did. -/
def weakResolvesUptoRow : OpenClaim := { program := "ytnpcfiahmadkjaa", sum := "80f15f6407827008074443976a9a988e74f92ab6765165cfb3a5602cb5b06d15", func := "selvedge/selvedgelaw16.WeakResolves", spec := "weakResolves", unfollowed := true, recurses := true, apart := false, narrowed := true }
def WeakResolvesUptoSaid : Prop := weakResolvesUptoRow.holds Try.pinned (OpenSpec.upto weakResolvesSpec)

/-- 'selvedgelaw16.WeakEnds', WHERE WHAT IT READS IS OF BULK AT MOST 1048576: true; the input reads as it did. -/
def weakEndsUptoRow : OpenClaim := { program := "ytnpcfiahmadkjaa", sum := "80f15f6407827008074443976a9a988e74f92ab6765165cfb3a5602cb5b06d15", func := "selvedge/selvedgelaw16.WeakEnds", spec := "weakEnds", unfollowed := true, recurses := true, apart := false, narrowed := true }
def WeakEndsUptoSaid : Prop := weakEndsUptoRow.holds Try.pinned (OpenSpec.upto weakEndsSpec)

/-- 'selvedgelaw16.WeakPassed', WHERE WHAT IT READS IS OF BULK AT MOST 1048576: true; the input reads as it did. -/
def weakPassedUptoRow : OpenClaim := { program := "ytnpcfiahmadkjaa", sum := "80f15f6407827008074443976a9a988e74f92ab6765165cfb3a5602cb5b06d15", func := "selvedge/selvedgelaw16.WeakPassed", spec := "weakPassed", unfollowed := true, recurses := true, apart := false, narrowed := true }
def WeakPassedUptoSaid : Prop := weakPassedUptoRow.holds Try.pinned (OpenSpec.upto weakPassedSpec)

/-- 'selvedgelaw16.WeakCuts', WHERE WHAT IT READS IS OF BULK AT MOST 1048576: true; the input reads as it did. -/
def weakCutsUptoRow : OpenClaim := { program := "ytnpcfiahmadkjaa", sum := "80f15f6407827008074443976a9a988e74f92ab6765165cfb3a5602cb5b06d15", func := "selvedge/selvedgelaw16.WeakCuts", spec := "weakCuts", unfollowed := true, recurses := true, apart := false, narrowed := true }
def WeakCutsUptoSaid : Prop := weakCutsUptoRow.holds Try.pinned (OpenSpec.upto weakCutsSpec)

/-- 'selvedgelaw16.WeakAgain', WHERE WHAT IT READS IS OF BULK AT MOST 1048576: true; the input reads as it did. -/
def weakAgainUptoRow : OpenClaim := { program := "ytnpcfiahmadkjaa", sum := "80f15f6407827008074443976a9a988e74f92ab6765165cfb3a5602cb5b06d15", func := "selvedge/selvedgelaw16.WeakAgain", spec := "weakAgain", unfollowed := true, recurses := true, apart := false, narrowed := true }
def WeakAgainUptoSaid : Prop := weakAgainUptoRow.holds Try.pinned (OpenSpec.upto weakAgainSpec)

/-- 'selvedgelaw16.WeakKnown', WHERE WHAT IT READS IS OF BULK AT MOST 1048576: true; the input reads as it did. -/
def weakKnownUptoRow : OpenClaim := { program := "ytnpcfiahmadkjaa", sum := "80f15f6407827008074443976a9a988e74f92ab6765165cfb3a5602cb5b06d15", func := "selvedge/selvedgelaw16.WeakKnown", spec := "weakKnown", unfollowed := true, recurses := true, apart := false, narrowed := true }
def WeakKnownUptoSaid : Prop := weakKnownUptoRow.holds Try.pinned (OpenSpec.upto weakKnownSpec)

end Rows
end Go.Proofs.Ytnpcfiahmadkjaa
