/-
  DERIVED. GIVEN WITH THE SEED: THE CARDS: each row of YtaohghcmlohngaaDoorRows.lean that lists a variable, with what it lists TIED to the program's text (the seventh form; the later family's looks); each row that meets fmt, with fmt's text TOLD by the authors' own Lean function (tested against real Go, not proved from fmt's source: count such statements apart). THE CARD IS WHAT COUNTS. Prove the row's statement (the work); the ties are given (YtaohghcmlohngaaDoorTie.lean); close each card by the builder's one call (the guide's Derived/Test/ToyasCard.lean, 'card_holds'). Laid BY PROGRAM, IN A SANDBOX (cutbox-door.mjs). By AI agents, Wed Nov 11 2026. No macro, syntax, notation, axiom, sorry.
-/
import Derived.Test.YtaohghcmlohngaaDoorRows
import GoSem.ClaimSeven
namespace Go.Proofs.YtaohghcmlohngaaDoor
namespace Rows

/-- THE TIED CARD OF 'selvedgelaw03.CharrefFinds'. -/
def charrefFindsCard : Claim7 := { stood := { row := charrefFindsRow, standIns := [], harness := (true, "a10ef491e940b6f246690b298e47f5c91c735f69fe5e80150ee984e4401365d2"), looks := false }, kinds := [], alts := [], laidByText := true, laidKinds := [.widerDeep, .data], laidTests := true, laidLooks := .later }
def CharrefFindsCardSaid : Prop := Claim7.holds Tryd.pinned (.plain (OpenSpec.ofChange charrefFindsSpec)) charrefFindsCard

/-- THE TIED CARD OF 'selvedgelaw03.CharrefDecodes'. -/
def charrefDecodesCard : Claim7 := { stood := { row := charrefDecodesRow, standIns := [], harness := (true, "a10ef491e940b6f246690b298e47f5c91c735f69fe5e80150ee984e4401365d2"), looks := false }, kinds := [], alts := [], laidByText := true, laidKinds := [.widerDeep, .data], laidTests := true, laidLooks := .later }
def CharrefDecodesCardSaid : Prop := Claim7.holds Tryd.pinned (.plain (OpenSpec.ofChange charrefDecodesSpec)) charrefDecodesCard

/-- THE TIED CARD OF 'selvedgelaw03.CharrefBack'. -/
def charrefBackCard : Claim7 := { stood := { row := charrefBackRow, standIns := [], harness := (true, "a10ef491e940b6f246690b298e47f5c91c735f69fe5e80150ee984e4401365d2"), looks := false }, kinds := [], alts := [], laidByText := true, laidKinds := [.widerDeep, .data], laidTests := true, laidLooks := .later }
def CharrefBackCardSaid : Prop := Claim7.holds Tryd.pinned (.plain (OpenSpec.ofChange charrefBackSpec)) charrefBackCard

/-- THE TIED CARD OF 'selvedgelaw03.CharrefNumbers'. -/
def charrefNumbersCard : Claim7 := { stood := { row := charrefNumbersRow, standIns := [], harness := (true, "a10ef491e940b6f246690b298e47f5c91c735f69fe5e80150ee984e4401365d2"), looks := false }, kinds := [], alts := [], laidByText := true, laidKinds := [.widerDeep, .data], laidTests := true, laidLooks := .later }
def CharrefNumbersCardSaid : Prop := Claim7.holds Tryd.pinned (.plain (OpenSpec.ofChange charrefNumbersSpec)) charrefNumbersCard

/-- THE TIED CARD OF 'selvedgelaw03.CharrefPieces'. -/
def charrefPiecesCard : Claim7 := { stood := { row := charrefPiecesRow, standIns := [], harness := (true, "a10ef491e940b6f246690b298e47f5c91c735f69fe5e80150ee984e4401365d2"), looks := false }, kinds := [], alts := [], laidByText := true, laidKinds := [.widerDeep, .data], laidTests := true, laidLooks := .later }
def CharrefPiecesCardSaid : Prop := Claim7.holds Tryd.pinned (.plain (OpenSpec.ofChange charrefPiecesSpec)) charrefPiecesCard

/-- THE TIED CARD OF 'selvedgelaw03.CharrefNames'. -/
def charrefNamesCard : Claim7 := { stood := { row := charrefNamesRow, standIns := [], harness := (true, "a10ef491e940b6f246690b298e47f5c91c735f69fe5e80150ee984e4401365d2"), looks := false }, kinds := [], alts := [], laidByText := true, laidKinds := [.widerDeep, .data], laidTests := true, laidLooks := .later }
def CharrefNamesCardSaid : Prop := Claim7.holds Tryd.pinned (.plain (OpenSpec.ofChange charrefNamesSpec)) charrefNamesCard

/-- THE TIED CARD OF 'selvedgelaw03.CharrefKnown'. -/
def charrefKnownCard : Claim7 := { stood := { row := charrefKnownRow, standIns := [], harness := (true, "a10ef491e940b6f246690b298e47f5c91c735f69fe5e80150ee984e4401365d2"), looks := false }, kinds := [], alts := [], laidByText := true, laidKinds := [.widerDeep, .data], laidTests := true, laidLooks := .later }
def CharrefKnownCardSaid : Prop := Claim7.holds Tryd.pinned (.plain (OpenSpec.ofChange charrefKnownSpec)) charrefKnownCard

/-- THE SECOND FORM's CARD OF 'selvedgelaw03.CharrefFinds'. -/
def charrefFindsUptoCard : Claim7 := { stood := { row := charrefFindsUptoRow, standIns := [], harness := (true, "a10ef491e940b6f246690b298e47f5c91c735f69fe5e80150ee984e4401365d2"), looks := false }, kinds := [], alts := [], laidByText := true, laidKinds := [.widerDeep, .data], laidTests := true, laidLooks := .later }
def CharrefFindsUptoCardSaid : Prop := Claim7.holds Tryd.pinned (.plain (OpenSpec.upto charrefFindsSpec)) charrefFindsUptoCard

/-- THE SECOND FORM's CARD OF 'selvedgelaw03.CharrefDecodes'. -/
def charrefDecodesUptoCard : Claim7 := { stood := { row := charrefDecodesUptoRow, standIns := [], harness := (true, "a10ef491e940b6f246690b298e47f5c91c735f69fe5e80150ee984e4401365d2"), looks := false }, kinds := [], alts := [], laidByText := true, laidKinds := [.widerDeep, .data], laidTests := true, laidLooks := .later }
def CharrefDecodesUptoCardSaid : Prop := Claim7.holds Tryd.pinned (.plain (OpenSpec.upto charrefDecodesSpec)) charrefDecodesUptoCard

/-- THE SECOND FORM's CARD OF 'selvedgelaw03.CharrefBack'. -/
def charrefBackUptoCard : Claim7 := { stood := { row := charrefBackUptoRow, standIns := [], harness := (true, "a10ef491e940b6f246690b298e47f5c91c735f69fe5e80150ee984e4401365d2"), looks := false }, kinds := [], alts := [], laidByText := true, laidKinds := [.widerDeep, .data], laidTests := true, laidLooks := .later }
def CharrefBackUptoCardSaid : Prop := Claim7.holds Tryd.pinned (.plain (OpenSpec.upto charrefBackSpec)) charrefBackUptoCard

/-- THE SECOND FORM's CARD OF 'selvedgelaw03.CharrefNumbers'. -/
def charrefNumbersUptoCard : Claim7 := { stood := { row := charrefNumbersUptoRow, standIns := [], harness := (true, "a10ef491e940b6f246690b298e47f5c91c735f69fe5e80150ee984e4401365d2"), looks := false }, kinds := [], alts := [], laidByText := true, laidKinds := [.widerDeep, .data], laidTests := true, laidLooks := .later }
def CharrefNumbersUptoCardSaid : Prop := Claim7.holds Tryd.pinned (.plain (OpenSpec.upto charrefNumbersSpec)) charrefNumbersUptoCard

/-- THE SECOND FORM's CARD OF 'selvedgelaw03.CharrefPieces'. -/
def charrefPiecesUptoCard : Claim7 := { stood := { row := charrefPiecesUptoRow, standIns := [], harness := (true, "a10ef491e940b6f246690b298e47f5c91c735f69fe5e80150ee984e4401365d2"), looks := false }, kinds := [], alts := [], laidByText := true, laidKinds := [.widerDeep, .data], laidTests := true, laidLooks := .later }
def CharrefPiecesUptoCardSaid : Prop := Claim7.holds Tryd.pinned (.plain (OpenSpec.upto charrefPiecesSpec)) charrefPiecesUptoCard

/-- THE SECOND FORM's CARD OF 'selvedgelaw03.CharrefNames'. -/
def charrefNamesUptoCard : Claim7 := { stood := { row := charrefNamesUptoRow, standIns := [], harness := (true, "a10ef491e940b6f246690b298e47f5c91c735f69fe5e80150ee984e4401365d2"), looks := false }, kinds := [], alts := [], laidByText := true, laidKinds := [.widerDeep, .data], laidTests := true, laidLooks := .later }
def CharrefNamesUptoCardSaid : Prop := Claim7.holds Tryd.pinned (.plain (OpenSpec.upto charrefNamesSpec)) charrefNamesUptoCard

/-- THE SECOND FORM's CARD OF 'selvedgelaw03.CharrefKnown'. -/
def charrefKnownUptoCard : Claim7 := { stood := { row := charrefKnownUptoRow, standIns := [], harness := (true, "a10ef491e940b6f246690b298e47f5c91c735f69fe5e80150ee984e4401365d2"), looks := false }, kinds := [], alts := [], laidByText := true, laidKinds := [.widerDeep, .data], laidTests := true, laidLooks := .later }
def CharrefKnownUptoCardSaid : Prop := Claim7.holds Tryd.pinned (.plain (OpenSpec.upto charrefKnownSpec)) charrefKnownUptoCard
end Rows
end Go.Proofs.YtaohghcmlohngaaDoor
