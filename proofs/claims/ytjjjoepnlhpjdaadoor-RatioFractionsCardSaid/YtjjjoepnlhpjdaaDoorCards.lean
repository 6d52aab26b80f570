/-
  DERIVED. GIVEN WITH THE SEED: THE CARDS: each row of YtjjjoepnlhpjdaaDoorRows.lean that lists a variable, with what it lists TIED to the program's text (the seventh form; the later family's looks); each row that meets fmt, with fmt's text TOLD by the authors' own Lean function (tested against real Go, not proved from fmt's source: count such statements apart). THE CARD IS WHAT COUNTS. Prove the row's statement (the work); the ties are given (YtjjjoepnlhpjdaaDoorTie.lean); close each card by the builder's one call (the guide's Derived/Test/ToyasCard.lean, 'card_holds'). Laid BY PROGRAM, IN A SANDBOX (cutbox-door.mjs). By AI agents, Wed Nov 11 2026. No macro, syntax, notation, axiom, sorry.
-/
import Derived.Test.YtjjjoepnlhpjdaaDoorRows
import GoSem.ClaimSeven
namespace Go.Proofs.YtjjjoepnlhpjdaaDoor
namespace Rows

/-- THE TIED CARD OF 'attestorlaw02.RatioTexts'. -/
def ratioTextsCard : Claim7 := { stood := { row := ratioTextsRow, standIns := [], harness := (true, "f10e3c82041fb525eb47ceb7c0ac5a378c8a545114b9239dd44dca913b4a2cef"), looks := false }, kinds := [], alts := [], laidByText := true, laidKinds := [.data, .pinned], laidTests := true, laidLooks := .later }
def RatioTextsCardSaid : Prop := Claim7.holds Tryd.pinned (.plain (OpenSpec.ofChange ratioTextsSpec)) ratioTextsCard

/-- THE TIED CARD OF 'attestorlaw02.RatioPrints'. -/
def ratioPrintsCard : Claim7 := { stood := { row := ratioPrintsRow, standIns := [], harness := (true, "f10e3c82041fb525eb47ceb7c0ac5a378c8a545114b9239dd44dca913b4a2cef"), looks := false }, kinds := [], alts := [], laidByText := true, laidKinds := [.data, .pinned], laidTests := true, laidLooks := .later }
def RatioPrintsCardSaid : Prop := Claim7.holds Tryd.pinned (.plain (OpenSpec.ofChange ratioPrintsSpec)) ratioPrintsCard

/-- THE TIED CARD OF 'attestorlaw02.RatioDivides'. -/
def ratioDividesCard : Claim7 := { stood := { row := ratioDividesRow, standIns := [], harness := (true, "f10e3c82041fb525eb47ceb7c0ac5a378c8a545114b9239dd44dca913b4a2cef"), looks := false }, kinds := [], alts := [], laidByText := true, laidKinds := [.data, .pinned], laidTests := true, laidLooks := .later }
def RatioDividesCardSaid : Prop := Claim7.holds Tryd.pinned (.plain (OpenSpec.ofChange ratioDividesSpec)) ratioDividesCard

/-- THE TIED CARD OF 'attestorlaw02.RatioLowest'. -/
def ratioLowestCard : Claim7 := { stood := { row := ratioLowestRow, standIns := [], harness := (true, "f10e3c82041fb525eb47ceb7c0ac5a378c8a545114b9239dd44dca913b4a2cef"), looks := false }, kinds := [], alts := [], laidByText := true, laidKinds := [.data, .pinned], laidTests := true, laidLooks := .later }
def RatioLowestCardSaid : Prop := Claim7.holds Tryd.pinned (.plain (OpenSpec.ofChange ratioLowestSpec)) ratioLowestCard

/-- THE TIED CARD OF 'attestorlaw02.RatioRing'. -/
def ratioRingCard : Claim7 := { stood := { row := ratioRingRow, standIns := [], harness := (true, "f10e3c82041fb525eb47ceb7c0ac5a378c8a545114b9239dd44dca913b4a2cef"), looks := false }, kinds := [], alts := [], laidByText := true, laidKinds := [.data, .pinned], laidTests := true, laidLooks := .later }
def RatioRingCardSaid : Prop := Claim7.holds Tryd.pinned (.plain (OpenSpec.ofChange ratioRingSpec)) ratioRingCard

/-- THE TIED CARD OF 'attestorlaw02.RatioFractions'. -/
def ratioFractionsCard : Claim7 := { stood := { row := ratioFractionsRow, standIns := [], harness := (true, "f10e3c82041fb525eb47ceb7c0ac5a378c8a545114b9239dd44dca913b4a2cef"), looks := false }, kinds := [], alts := [], laidByText := true, laidKinds := [.data, .pinned], laidTests := true, laidLooks := .later }
def RatioFractionsCardSaid : Prop := Claim7.holds Tryd.pinned (.plain (OpenSpec.ofChange ratioFractionsSpec)) ratioFractionsCard

/-- THE TIED CARD OF 'attestorlaw02.RatioNats'. -/
def ratioNatsCard : Claim7 := { stood := { row := ratioNatsRow, standIns := [], harness := (true, "f10e3c82041fb525eb47ceb7c0ac5a378c8a545114b9239dd44dca913b4a2cef"), looks := false }, kinds := [], alts := [], laidByText := true, laidKinds := [.data, .pinned], laidTests := true, laidLooks := .later }
def RatioNatsCardSaid : Prop := Claim7.holds Tryd.pinned (.plain (OpenSpec.ofChange ratioNatsSpec)) ratioNatsCard

/-- THE TIED CARD OF 'attestorlaw02.RatioKnown'. -/
def ratioKnownCard : Claim7 := { stood := { row := ratioKnownRow, standIns := [], harness := (true, "f10e3c82041fb525eb47ceb7c0ac5a378c8a545114b9239dd44dca913b4a2cef"), looks := false }, kinds := [], alts := [], laidByText := true, laidKinds := [.data, .pinned], laidTests := true, laidLooks := .later }
def RatioKnownCardSaid : Prop := Claim7.holds Tryd.pinned (.plain (OpenSpec.ofChange ratioKnownSpec)) ratioKnownCard

/-- THE SECOND FORM's CARD OF 'attestorlaw02.RatioTexts'. -/
def ratioTextsUptoCard : Claim7 := { stood := { row := ratioTextsUptoRow, standIns := [], harness := (true, "f10e3c82041fb525eb47ceb7c0ac5a378c8a545114b9239dd44dca913b4a2cef"), looks := false }, kinds := [], alts := [], laidByText := true, laidKinds := [.data, .pinned], laidTests := true, laidLooks := .later }
def RatioTextsUptoCardSaid : Prop := Claim7.holds Tryd.pinned (.plain (OpenSpec.upto ratioTextsSpec)) ratioTextsUptoCard

/-- THE SECOND FORM's CARD OF 'attestorlaw02.RatioPrints'. -/
def ratioPrintsUptoCard : Claim7 := { stood := { row := ratioPrintsUptoRow, standIns := [], harness := (true, "f10e3c82041fb525eb47ceb7c0ac5a378c8a545114b9239dd44dca913b4a2cef"), looks := false }, kinds := [], alts := [], laidByText := true, laidKinds := [.data, .pinned], laidTests := true, laidLooks := .later }
def RatioPrintsUptoCardSaid : Prop := Claim7.holds Tryd.pinned (.plain (OpenSpec.upto ratioPrintsSpec)) ratioPrintsUptoCard

/-- THE SECOND FORM's CARD OF 'attestorlaw02.RatioDivides'. -/
def ratioDividesUptoCard : Claim7 := { stood := { row := ratioDividesUptoRow, standIns := [], harness := (true, "f10e3c82041fb525eb47ceb7c0ac5a378c8a545114b9239dd44dca913b4a2cef"), looks := false }, kinds := [], alts := [], laidByText := true, laidKinds := [.data, .pinned], laidTests := true, laidLooks := .later }
def RatioDividesUptoCardSaid : Prop := Claim7.holds Tryd.pinned (.plain (OpenSpec.upto ratioDividesSpec)) ratioDividesUptoCard

/-- THE SECOND FORM's CARD OF 'attestorlaw02.RatioLowest'. -/
def ratioLowestUptoCard : Claim7 := { stood := { row := ratioLowestUptoRow, standIns := [], harness := (true, "f10e3c82041fb525eb47ceb7c0ac5a378c8a545114b9239dd44dca913b4a2cef"), looks := false }, kinds := [], alts := [], laidByText := true, laidKinds := [.data, .pinned], laidTests := true, laidLooks := .later }
def RatioLowestUptoCardSaid : Prop := Claim7.holds Tryd.pinned (.plain (OpenSpec.upto ratioLowestSpec)) ratioLowestUptoCard

/-- THE SECOND FORM's CARD OF 'attestorlaw02.RatioRing'. -/
def ratioRingUptoCard : Claim7 := { stood := { row := ratioRingUptoRow, standIns := [], harness := (true, "f10e3c82041fb525eb47ceb7c0ac5a378c8a545114b9239dd44dca913b4a2cef"), looks := false }, kinds := [], alts := [], laidByText := true, laidKinds := [.data, .pinned], laidTests := true, laidLooks := .later }
def RatioRingUptoCardSaid : Prop := Claim7.holds Tryd.pinned (.plain (OpenSpec.upto ratioRingSpec)) ratioRingUptoCard

/-- THE SECOND FORM's CARD OF 'attestorlaw02.RatioFractions'. -/
def ratioFractionsUptoCard : Claim7 := { stood := { row := ratioFractionsUptoRow, standIns := [], harness := (true, "f10e3c82041fb525eb47ceb7c0ac5a378c8a545114b9239dd44dca913b4a2cef"), looks := false }, kinds := [], alts := [], laidByText := true, laidKinds := [.data, .pinned], laidTests := true, laidLooks := .later }
def RatioFractionsUptoCardSaid : Prop := Claim7.holds Tryd.pinned (.plain (OpenSpec.upto ratioFractionsSpec)) ratioFractionsUptoCard

/-- THE SECOND FORM's CARD OF 'attestorlaw02.RatioNats'. -/
def ratioNatsUptoCard : Claim7 := { stood := { row := ratioNatsUptoRow, standIns := [], harness := (true, "f10e3c82041fb525eb47ceb7c0ac5a378c8a545114b9239dd44dca913b4a2cef"), looks := false }, kinds := [], alts := [], laidByText := true, laidKinds := [.data, .pinned], laidTests := true, laidLooks := .later }
def RatioNatsUptoCardSaid : Prop := Claim7.holds Tryd.pinned (.plain (OpenSpec.upto ratioNatsSpec)) ratioNatsUptoCard

/-- THE SECOND FORM's CARD OF 'attestorlaw02.RatioKnown'. -/
def ratioKnownUptoCard : Claim7 := { stood := { row := ratioKnownUptoRow, standIns := [], harness := (true, "f10e3c82041fb525eb47ceb7c0ac5a378c8a545114b9239dd44dca913b4a2cef"), looks := false }, kinds := [], alts := [], laidByText := true, laidKinds := [.data, .pinned], laidTests := true, laidLooks := .later }
def RatioKnownUptoCardSaid : Prop := Claim7.holds Tryd.pinned (.plain (OpenSpec.upto ratioKnownSpec)) ratioKnownUptoCard
end Rows
end Go.Proofs.YtjjjoepnlhpjdaaDoor
