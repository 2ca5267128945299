/-
  DERIVED. GIVEN WITH THE SEED: THE CARDS: each row of YtihdbjilolmfiaaGreatDoorRows.lean that lists a variable, with what it lists TIED to the program's text (the seventh form; the later family's looks); each row that meets fmt, with fmt's text TOLD by the authors' own Lean function (tested against real Go, not proved from fmt's source: count such statements apart). THE CARD IS WHAT COUNTS. Prove the row's statement (the work); the ties are given (YtihdbjilolmfiaaGreatDoorTie.lean); close each card by the builder's one call (the guide's Derived/Test/ToyasCard.lean, 'card_holds'). Laid BY PROGRAM, IN A SANDBOX (cutbox-door.mjs). By AI agents, Wed Nov 11 2026. No macro, syntax, notation, axiom, sorry.
-/
import Derived.Test.YtihdbjilolmfiaaGreatDoorRows
import GoSem.ClaimSeven
namespace Go.Proofs.YtihdbjilolmfiaaGreatDoor
namespace Rows

/-- THE TIED CARD OF 'annuitantlaw02.FracRounds'. -/
def fracRoundsCard : Claim7 := { stood := { row := fracRoundsRow, standIns := [], harness := (true, "1b1efcb6f3d86815c90713c89a03546dfbd089eca60766eca0091c643b974664"), looks := true }, kinds := [], alts := [], laidByText := true, laidKinds := [.data, .data, .data, .sentinel, .sentinel], laidTests := true, laidLooks := .later }
def FracRoundsCardSaid : Prop := Claim7.holds Tryz.pinned (.plain (OpenSpec.ofChange fracRoundsSpec)) fracRoundsCard

/-- THE TIED CARD OF 'annuitantlaw02.FracLimits'. -/
def fracLimitsCard : Claim7 := { stood := { row := fracLimitsRow, standIns := [], harness := (true, "1b1efcb6f3d86815c90713c89a03546dfbd089eca60766eca0091c643b974664"), looks := true }, kinds := [], alts := [], laidByText := true, laidKinds := [.data, .data, .data, .sentinel, .sentinel], laidTests := true, laidLooks := .later }
def FracLimitsCardSaid : Prop := Claim7.holds Tryz.pinned (.plain (OpenSpec.ofChange fracLimitsSpec)) fracLimitsCard

/-- THE TIED CARD OF 'annuitantlaw02.FracPowers'. -/
def fracPowersCard : Claim7 := { stood := { row := fracPowersRow, standIns := [], harness := (true, "1b1efcb6f3d86815c90713c89a03546dfbd089eca60766eca0091c643b974664"), looks := true }, kinds := [], alts := [], laidByText := true, laidKinds := [.data, .data, .data, .sentinel, .sentinel], laidTests := true, laidLooks := .later }
def FracPowersCardSaid : Prop := Claim7.holds Tryz.pinned (.plain (OpenSpec.ofChange fracPowersSpec)) fracPowersCard

/-- THE TIED CARD OF 'annuitantlaw02.FracOrder'. -/
def fracOrderCard : Claim7 := { stood := { row := fracOrderRow, standIns := [], harness := (true, "1b1efcb6f3d86815c90713c89a03546dfbd089eca60766eca0091c643b974664"), looks := true }, kinds := [], alts := [], laidByText := true, laidKinds := [.data, .data, .data, .sentinel, .sentinel], laidTests := true, laidLooks := .later }
def FracOrderCardSaid : Prop := Claim7.holds Tryz.pinned (.plain (OpenSpec.ofChange fracOrderSpec)) fracOrderCard

/-- THE TIED CARD OF 'annuitantlaw02.FracNearest'. -/
def fracNearestCard : Claim7 := { stood := { row := fracNearestRow, standIns := [], harness := (true, "1b1efcb6f3d86815c90713c89a03546dfbd089eca60766eca0091c643b974664"), looks := true }, kinds := [], alts := [], laidByText := true, laidKinds := [.data, .data, .data, .sentinel, .sentinel], laidTests := true, laidLooks := .later }
def FracNearestCardSaid : Prop := Claim7.holds Tryz.pinned (.plain (OpenSpec.ofChange fracNearestSpec)) fracNearestCard

/-- THE TIED CARD OF 'annuitantlaw02.FracField'. -/
def fracFieldCard : Claim7 := { stood := { row := fracFieldRow, standIns := [], harness := (true, "1b1efcb6f3d86815c90713c89a03546dfbd089eca60766eca0091c643b974664"), looks := true }, kinds := [], alts := [], laidByText := true, laidKinds := [.data, .data, .data, .sentinel, .sentinel], laidTests := true, laidLooks := .later }
def FracFieldCardSaid : Prop := Claim7.holds Tryz.pinned (.plain (OpenSpec.ofChange fracFieldSpec)) fracFieldCard

/-- THE TIED CARD OF 'annuitantlaw02.FracEnds'. -/
def fracEndsCard : Claim7 := { stood := { row := fracEndsRow, standIns := [], harness := (true, "1b1efcb6f3d86815c90713c89a03546dfbd089eca60766eca0091c643b974664"), looks := true }, kinds := [], alts := [], laidByText := true, laidKinds := [.data, .data, .data, .sentinel, .sentinel], laidTests := true, laidLooks := .later }
def FracEndsCardSaid : Prop := Claim7.holds Tryz.pinned (.plain (OpenSpec.ofChange fracEndsSpec)) fracEndsCard

/-- THE TIED CARD OF 'annuitantlaw02.FracLowest'. -/
def fracLowestCard : Claim7 := { stood := { row := fracLowestRow, standIns := [], harness := (true, "1b1efcb6f3d86815c90713c89a03546dfbd089eca60766eca0091c643b974664"), looks := true }, kinds := [], alts := [], laidByText := true, laidKinds := [.data, .data, .data, .sentinel, .sentinel], laidTests := true, laidLooks := .later }
def FracLowestCardSaid : Prop := Claim7.holds Tryz.pinned (.plain (OpenSpec.ofChange fracLowestSpec)) fracLowestCard

/-- THE TIED CARD OF 'annuitantlaw02.FracFloors'. -/
def fracFloorsCard : Claim7 := { stood := { row := fracFloorsRow, standIns := [], harness := (true, "1b1efcb6f3d86815c90713c89a03546dfbd089eca60766eca0091c643b974664"), looks := true }, kinds := [], alts := [], laidByText := true, laidKinds := [.data, .data, .data, .sentinel, .sentinel], laidTests := true, laidLooks := .later }
def FracFloorsCardSaid : Prop := Claim7.holds Tryz.pinned (.plain (OpenSpec.ofChange fracFloorsSpec)) fracFloorsCard

/-- THE TIED CARD OF 'annuitantlaw02.FracTexts'. -/
def fracTextsCard : Claim7 := { stood := { row := fracTextsRow, standIns := [], harness := (true, "1b1efcb6f3d86815c90713c89a03546dfbd089eca60766eca0091c643b974664"), looks := true }, kinds := [], alts := [], laidByText := true, laidKinds := [.data, .data, .data, .sentinel, .sentinel], laidTests := true, laidLooks := .later }
def FracTextsCardSaid : Prop := Claim7.holds Tryz.pinned (.plain (OpenSpec.ofChange fracTextsSpec)) fracTextsCard

/-- THE TIED CARD OF 'annuitantlaw02.FracWrong'. -/
def fracWrongCard : Claim7 := { stood := { row := fracWrongRow, standIns := [], harness := (true, "1b1efcb6f3d86815c90713c89a03546dfbd089eca60766eca0091c643b974664"), looks := true }, kinds := [], alts := [], laidByText := true, laidKinds := [.data, .data, .data, .sentinel, .sentinel], laidTests := true, laidLooks := .later }
def FracWrongCardSaid : Prop := Claim7.holds Tryz.pinned (.plain (OpenSpec.ofChange fracWrongSpec)) fracWrongCard

/-- THE TIED CARD OF 'annuitantlaw02.FracTells'. -/
def fracTellsCard : Claim7 := { stood := { row := fracTellsRow, standIns := [], harness := (true, "1b1efcb6f3d86815c90713c89a03546dfbd089eca60766eca0091c643b974664"), looks := true }, kinds := [], alts := [], laidByText := true, laidKinds := [.data, .data, .data, .sentinel, .sentinel], laidTests := true, laidLooks := .later }
def FracTellsCardSaid : Prop := Claim7.holds Tryz.pinned (.plain (OpenSpec.ofChange fracTellsSpec)) fracTellsCard

/-- THE SECOND FORM's CARD OF 'annuitantlaw02.FracRounds'. -/
def fracRoundsUptoCard : Claim7 := { stood := { row := fracRoundsUptoRow, standIns := [], harness := (true, "1b1efcb6f3d86815c90713c89a03546dfbd089eca60766eca0091c643b974664"), looks := true }, kinds := [], alts := [], laidByText := true, laidKinds := [.data, .data, .data, .sentinel, .sentinel], laidTests := true, laidLooks := .later }
def FracRoundsUptoCardSaid : Prop := Claim7.holds Tryz.pinned (.plain (OpenSpec.upto fracRoundsSpec)) fracRoundsUptoCard

/-- THE SECOND FORM's CARD OF 'annuitantlaw02.FracLimits'. -/
def fracLimitsUptoCard : Claim7 := { stood := { row := fracLimitsUptoRow, standIns := [], harness := (true, "1b1efcb6f3d86815c90713c89a03546dfbd089eca60766eca0091c643b974664"), looks := true }, kinds := [], alts := [], laidByText := true, laidKinds := [.data, .data, .data, .sentinel, .sentinel], laidTests := true, laidLooks := .later }
def FracLimitsUptoCardSaid : Prop := Claim7.holds Tryz.pinned (.plain (OpenSpec.upto fracLimitsSpec)) fracLimitsUptoCard

/-- THE SECOND FORM's CARD OF 'annuitantlaw02.FracPowers'. -/
def fracPowersUptoCard : Claim7 := { stood := { row := fracPowersUptoRow, standIns := [], harness := (true, "1b1efcb6f3d86815c90713c89a03546dfbd089eca60766eca0091c643b974664"), looks := true }, kinds := [], alts := [], laidByText := true, laidKinds := [.data, .data, .data, .sentinel, .sentinel], laidTests := true, laidLooks := .later }
def FracPowersUptoCardSaid : Prop := Claim7.holds Tryz.pinned (.plain (OpenSpec.upto fracPowersSpec)) fracPowersUptoCard

/-- THE SECOND FORM's CARD OF 'annuitantlaw02.FracOrder'. -/
def fracOrderUptoCard : Claim7 := { stood := { row := fracOrderUptoRow, standIns := [], harness := (true, "1b1efcb6f3d86815c90713c89a03546dfbd089eca60766eca0091c643b974664"), looks := true }, kinds := [], alts := [], laidByText := true, laidKinds := [.data, .data, .data, .sentinel, .sentinel], laidTests := true, laidLooks := .later }
def FracOrderUptoCardSaid : Prop := Claim7.holds Tryz.pinned (.plain (OpenSpec.upto fracOrderSpec)) fracOrderUptoCard

/-- THE SECOND FORM's CARD OF 'annuitantlaw02.FracNearest'. -/
def fracNearestUptoCard : Claim7 := { stood := { row := fracNearestUptoRow, standIns := [], harness := (true, "1b1efcb6f3d86815c90713c89a03546dfbd089eca60766eca0091c643b974664"), looks := true }, kinds := [], alts := [], laidByText := true, laidKinds := [.data, .data, .data, .sentinel, .sentinel], laidTests := true, laidLooks := .later }
def FracNearestUptoCardSaid : Prop := Claim7.holds Tryz.pinned (.plain (OpenSpec.upto fracNearestSpec)) fracNearestUptoCard

/-- THE SECOND FORM's CARD OF 'annuitantlaw02.FracField'. -/
def fracFieldUptoCard : Claim7 := { stood := { row := fracFieldUptoRow, standIns := [], harness := (true, "1b1efcb6f3d86815c90713c89a03546dfbd089eca60766eca0091c643b974664"), looks := true }, kinds := [], alts := [], laidByText := true, laidKinds := [.data, .data, .data, .sentinel, .sentinel], laidTests := true, laidLooks := .later }
def FracFieldUptoCardSaid : Prop := Claim7.holds Tryz.pinned (.plain (OpenSpec.upto fracFieldSpec)) fracFieldUptoCard

/-- THE SECOND FORM's CARD OF 'annuitantlaw02.FracEnds'. -/
def fracEndsUptoCard : Claim7 := { stood := { row := fracEndsUptoRow, standIns := [], harness := (true, "1b1efcb6f3d86815c90713c89a03546dfbd089eca60766eca0091c643b974664"), looks := true }, kinds := [], alts := [], laidByText := true, laidKinds := [.data, .data, .data, .sentinel, .sentinel], laidTests := true, laidLooks := .later }
def FracEndsUptoCardSaid : Prop := Claim7.holds Tryz.pinned (.plain (OpenSpec.upto fracEndsSpec)) fracEndsUptoCard

/-- THE SECOND FORM's CARD OF 'annuitantlaw02.FracLowest'. -/
def fracLowestUptoCard : Claim7 := { stood := { row := fracLowestUptoRow, standIns := [], harness := (true, "1b1efcb6f3d86815c90713c89a03546dfbd089eca60766eca0091c643b974664"), looks := true }, kinds := [], alts := [], laidByText := true, laidKinds := [.data, .data, .data, .sentinel, .sentinel], laidTests := true, laidLooks := .later }
def FracLowestUptoCardSaid : Prop := Claim7.holds Tryz.pinned (.plain (OpenSpec.upto fracLowestSpec)) fracLowestUptoCard

/-- THE SECOND FORM's CARD OF 'annuitantlaw02.FracFloors'. -/
def fracFloorsUptoCard : Claim7 := { stood := { row := fracFloorsUptoRow, standIns := [], harness := (true, "1b1efcb6f3d86815c90713c89a03546dfbd089eca60766eca0091c643b974664"), looks := true }, kinds := [], alts := [], laidByText := true, laidKinds := [.data, .data, .data, .sentinel, .sentinel], laidTests := true, laidLooks := .later }
def FracFloorsUptoCardSaid : Prop := Claim7.holds Tryz.pinned (.plain (OpenSpec.upto fracFloorsSpec)) fracFloorsUptoCard

/-- THE SECOND FORM's CARD OF 'annuitantlaw02.FracTexts'. -/
def fracTextsUptoCard : Claim7 := { stood := { row := fracTextsUptoRow, standIns := [], harness := (true, "1b1efcb6f3d86815c90713c89a03546dfbd089eca60766eca0091c643b974664"), looks := true }, kinds := [], alts := [], laidByText := true, laidKinds := [.data, .data, .data, .sentinel, .sentinel], laidTests := true, laidLooks := .later }
def FracTextsUptoCardSaid : Prop := Claim7.holds Tryz.pinned (.plain (OpenSpec.upto fracTextsSpec)) fracTextsUptoCard

/-- THE SECOND FORM's CARD OF 'annuitantlaw02.FracWrong'. -/
def fracWrongUptoCard : Claim7 := { stood := { row := fracWrongUptoRow, standIns := [], harness := (true, "1b1efcb6f3d86815c90713c89a03546dfbd089eca60766eca0091c643b974664"), looks := true }, kinds := [], alts := [], laidByText := true, laidKinds := [.data, .data, .data, .sentinel, .sentinel], laidTests := true, laidLooks := .later }
def FracWrongUptoCardSaid : Prop := Claim7.holds Tryz.pinned (.plain (OpenSpec.upto fracWrongSpec)) fracWrongUptoCard

/-- THE SECOND FORM's CARD OF 'annuitantlaw02.FracTells'. -/
def fracTellsUptoCard : Claim7 := { stood := { row := fracTellsUptoRow, standIns := [], harness := (true, "1b1efcb6f3d86815c90713c89a03546dfbd089eca60766eca0091c643b974664"), looks := true }, kinds := [], alts := [], laidByText := true, laidKinds := [.data, .data, .data, .sentinel, .sentinel], laidTests := true, laidLooks := .later }
def FracTellsUptoCardSaid : Prop := Claim7.holds Tryz.pinned (.plain (OpenSpec.upto fracTellsSpec)) fracTellsUptoCard
end Rows
end Go.Proofs.YtihdbjilolmfiaaGreatDoor
