/-
  DERIVED. GIVEN WITH THE SEED: THE CARDS: each row of YtiogpnefnapfeaaDoorRows.lean that lists a variable, with what it lists TIED to the program's text (the seventh form; the later family's looks); each row that meets fmt, with fmt's text TOLD by the authors' own Lean function (tested against real Go, not proved from fmt's source: count such statements apart). THE CARD IS WHAT COUNTS. Prove the row's statement (the work); the ties are given (YtiogpnefnapfeaaDoorTie.lean); close each card by the builder's one call (the guide's Derived/Test/ToyasCard.lean, 'card_holds'). Laid BY PROGRAM, IN A SANDBOX (cutbox-door.mjs). By AI agents, Wed Nov 11 2026. No macro, syntax, notation, axiom, sorry.
-/
import Derived.Test.YtiogpnefnapfeaaDoorRows
import GoSem.ClaimSeven
namespace Go.Proofs.YtiogpnefnapfeaaDoor
namespace Rows

/-- THE TIED CARD OF 'selvedgelaw17.PairsPairs'. -/
def pairsPairsCard : Claim7 := { stood := { row := pairsPairsRow, standIns := [], harness := (true, "e090a505ded8ac6f24b57c2ac0661e6a7663111ed5fa15bd203b576c05a2f681"), looks := false }, kinds := [], alts := [], laidByText := true, laidKinds := [.widerDeep], laidTests := true, laidLooks := .later }
def PairsPairsCardSaid : Prop := Claim7.holds Tryd.pinned (.plain (OpenSpec.ofChange pairsPairsSpec)) pairsPairsCard

/-- THE TIED CARD OF 'selvedgelaw17.PairsResolve'. -/
def pairsResolveCard : Claim7 := { stood := { row := pairsResolveRow, standIns := [], harness := (true, "e090a505ded8ac6f24b57c2ac0661e6a7663111ed5fa15bd203b576c05a2f681"), looks := false }, kinds := [], alts := [], laidByText := true, laidKinds := [.widerDeep], laidTests := true, laidLooks := .later }
def PairsResolveCardSaid : Prop := Claim7.holds Tryd.pinned (.plain (OpenSpec.ofChange pairsResolveSpec)) pairsResolveCard

/-- THE TIED CARD OF 'selvedgelaw17.PairsNest'. -/
def pairsNestCard : Claim7 := { stood := { row := pairsNestRow, standIns := [], harness := (true, "e090a505ded8ac6f24b57c2ac0661e6a7663111ed5fa15bd203b576c05a2f681"), looks := false }, kinds := [], alts := [], laidByText := true, laidKinds := [.widerDeep], laidTests := true, laidLooks := .later }
def PairsNestCardSaid : Prop := Claim7.holds Tryd.pinned (.plain (OpenSpec.ofChange pairsNestSpec)) pairsNestCard

/-- THE TIED CARD OF 'selvedgelaw17.PairsPlain'. -/
def pairsPlainCard : Claim7 := { stood := { row := pairsPlainRow, standIns := [], harness := (true, "e090a505ded8ac6f24b57c2ac0661e6a7663111ed5fa15bd203b576c05a2f681"), looks := false }, kinds := [], alts := [], laidByText := true, laidKinds := [.widerDeep], laidTests := true, laidLooks := .later }
def PairsPlainCardSaid : Prop := Claim7.holds Tryd.pinned (.plain (OpenSpec.ofChange pairsPlainSpec)) pairsPlainCard

/-- THE TIED CARD OF 'selvedgelaw17.PairsKnown'. -/
def pairsKnownCard : Claim7 := { stood := { row := pairsKnownRow, standIns := [], harness := (true, "e090a505ded8ac6f24b57c2ac0661e6a7663111ed5fa15bd203b576c05a2f681"), looks := false }, kinds := [], alts := [], laidByText := true, laidKinds := [.widerDeep], laidTests := true, laidLooks := .later }
def PairsKnownCardSaid : Prop := Claim7.holds Tryd.pinned (.plain (OpenSpec.ofChange pairsKnownSpec)) pairsKnownCard

/-- THE SECOND FORM's CARD OF 'selvedgelaw17.PairsPairs'. -/
def pairsPairsUptoCard : Claim7 := { stood := { row := pairsPairsUptoRow, standIns := [], harness := (true, "e090a505ded8ac6f24b57c2ac0661e6a7663111ed5fa15bd203b576c05a2f681"), looks := false }, kinds := [], alts := [], laidByText := true, laidKinds := [.widerDeep], laidTests := true, laidLooks := .later }
def PairsPairsUptoCardSaid : Prop := Claim7.holds Tryd.pinned (.plain (OpenSpec.upto pairsPairsSpec)) pairsPairsUptoCard

/-- THE SECOND FORM's CARD OF 'selvedgelaw17.PairsResolve'. -/
def pairsResolveUptoCard : Claim7 := { stood := { row := pairsResolveUptoRow, standIns := [], harness := (true, "e090a505ded8ac6f24b57c2ac0661e6a7663111ed5fa15bd203b576c05a2f681"), looks := false }, kinds := [], alts := [], laidByText := true, laidKinds := [.widerDeep], laidTests := true, laidLooks := .later }
def PairsResolveUptoCardSaid : Prop := Claim7.holds Tryd.pinned (.plain (OpenSpec.upto pairsResolveSpec)) pairsResolveUptoCard

/-- THE SECOND FORM's CARD OF 'selvedgelaw17.PairsNest'. -/
def pairsNestUptoCard : Claim7 := { stood := { row := pairsNestUptoRow, standIns := [], harness := (true, "e090a505ded8ac6f24b57c2ac0661e6a7663111ed5fa15bd203b576c05a2f681"), looks := false }, kinds := [], alts := [], laidByText := true, laidKinds := [.widerDeep], laidTests := true, laidLooks := .later }
def PairsNestUptoCardSaid : Prop := Claim7.holds Tryd.pinned (.plain (OpenSpec.upto pairsNestSpec)) pairsNestUptoCard

/-- THE SECOND FORM's CARD OF 'selvedgelaw17.PairsPlain'. -/
def pairsPlainUptoCard : Claim7 := { stood := { row := pairsPlainUptoRow, standIns := [], harness := (true, "e090a505ded8ac6f24b57c2ac0661e6a7663111ed5fa15bd203b576c05a2f681"), looks := false }, kinds := [], alts := [], laidByText := true, laidKinds := [.widerDeep], laidTests := true, laidLooks := .later }
def PairsPlainUptoCardSaid : Prop := Claim7.holds Tryd.pinned (.plain (OpenSpec.upto pairsPlainSpec)) pairsPlainUptoCard

/-- THE SECOND FORM's CARD OF 'selvedgelaw17.PairsKnown'. -/
def pairsKnownUptoCard : Claim7 := { stood := { row := pairsKnownUptoRow, standIns := [], harness := (true, "e090a505ded8ac6f24b57c2ac0661e6a7663111ed5fa15bd203b576c05a2f681"), looks := false }, kinds := [], alts := [], laidByText := true, laidKinds := [.widerDeep], laidTests := true, laidLooks := .later }
def PairsKnownUptoCardSaid : Prop := Claim7.holds Tryd.pinned (.plain (OpenSpec.upto pairsKnownSpec)) pairsKnownUptoCard
end Rows
end Go.Proofs.YtiogpnefnapfeaaDoor
