/-
  DERIVED. GIVEN WITH THE SEED: THE CARDS: each row of YtmnahhacobfafaaDoorRows.lean that lists a variable, with what it lists TIED to the program's text (the seventh form; the later family's looks); each row that meets fmt, with fmt's text TOLD by the authors' own Lean function (tested against real Go, not proved from fmt's source: count such statements apart). THE CARD IS WHAT COUNTS. Prove the row's statement (the work); the ties are given (YtmnahhacobfafaaDoorTie.lean); close each card by the builder's one call (the guide's Derived/Test/ToyasCard.lean, 'card_holds'). Laid BY PROGRAM, IN A SANDBOX (cutbox-door.mjs). By AI agents, Wed Nov 11 2026. No macro, syntax, notation, axiom, sorry.
-/
import Derived.Test.YtmnahhacobfafaaDoorRows
import GoSem.ClaimSeven
namespace Go.Proofs.YtmnahhacobfafaaDoor
namespace Rows

/-- THE TIED CARD OF 'attestorlaw03.PolyThroughs'. -/
def polyThroughsCard : Claim7 := { stood := { row := polyThroughsRow, standIns := [], harness := (true, "72769332833f7438d125bee3b65c546be0267466d42c54106d46df01f0735d94"), looks := false }, kinds := [], alts := [], laidByText := true, laidKinds := [.widerDeep], laidTests := true, laidLooks := .later }
def PolyThroughsCardSaid : Prop := Claim7.holds Tryd.pinned (.plain (OpenSpec.ofChange polyThroughsSpec)) polyThroughsCard

/-- THE TIED CARD OF 'attestorlaw03.PolyDivides'. -/
def polyDividesCard : Claim7 := { stood := { row := polyDividesRow, standIns := [], harness := (true, "72769332833f7438d125bee3b65c546be0267466d42c54106d46df01f0735d94"), looks := false }, kinds := [], alts := [], laidByText := true, laidKinds := [.widerDeep], laidTests := true, laidLooks := .later }
def PolyDividesCardSaid : Prop := Claim7.holds Tryd.pinned (.plain (OpenSpec.ofChange polyDividesSpec)) polyDividesCard

/-- THE TIED CARD OF 'attestorlaw03.PolyOne'. -/
def polyOneCard : Claim7 := { stood := { row := polyOneRow, standIns := [], harness := (true, "72769332833f7438d125bee3b65c546be0267466d42c54106d46df01f0735d94"), looks := false }, kinds := [], alts := [], laidByText := true, laidKinds := [.widerDeep], laidTests := true, laidLooks := .later }
def PolyOneCardSaid : Prop := Claim7.holds Tryd.pinned (.plain (OpenSpec.ofChange polyOneSpec)) polyOneCard

/-- THE TIED CARD OF 'attestorlaw03.PolyRoots'. -/
def polyRootsCard : Claim7 := { stood := { row := polyRootsRow, standIns := [], harness := (true, "72769332833f7438d125bee3b65c546be0267466d42c54106d46df01f0735d94"), looks := false }, kinds := [], alts := [], laidByText := true, laidKinds := [.widerDeep], laidTests := true, laidLooks := .later }
def PolyRootsCardSaid : Prop := Claim7.holds Tryd.pinned (.plain (OpenSpec.ofChange polyRootsSpec)) polyRootsCard

/-- THE TIED CARD OF 'attestorlaw03.PolyOps'. -/
def polyOpsCard : Claim7 := { stood := { row := polyOpsRow, standIns := [], harness := (true, "72769332833f7438d125bee3b65c546be0267466d42c54106d46df01f0735d94"), looks := false }, kinds := [], alts := [], laidByText := true, laidKinds := [.widerDeep], laidTests := true, laidLooks := .later }
def PolyOpsCardSaid : Prop := Claim7.holds Tryd.pinned (.plain (OpenSpec.ofChange polyOpsSpec)) polyOpsCard

/-- THE TIED CARD OF 'attestorlaw03.PolyParts'. -/
def polyPartsCard : Claim7 := { stood := { row := polyPartsRow, standIns := [], harness := (true, "72769332833f7438d125bee3b65c546be0267466d42c54106d46df01f0735d94"), looks := false }, kinds := [], alts := [], laidByText := true, laidKinds := [.widerDeep], laidTests := true, laidLooks := .later }
def PolyPartsCardSaid : Prop := Claim7.holds Tryd.pinned (.plain (OpenSpec.ofChange polyPartsSpec)) polyPartsCard

/-- THE TIED CARD OF 'attestorlaw03.PolyKnown'. -/
def polyKnownCard : Claim7 := { stood := { row := polyKnownRow, standIns := [], harness := (true, "72769332833f7438d125bee3b65c546be0267466d42c54106d46df01f0735d94"), looks := false }, kinds := [], alts := [], laidByText := true, laidKinds := [.widerDeep], laidTests := true, laidLooks := .later }
def PolyKnownCardSaid : Prop := Claim7.holds Tryd.pinned (.plain (OpenSpec.ofChange polyKnownSpec)) polyKnownCard

/-- THE TIED CARD OF 'attestorlaw03.PolyValues'. -/
def polyValuesCard : Claim7 := { stood := { row := polyValuesRow, standIns := [], harness := (true, "72769332833f7438d125bee3b65c546be0267466d42c54106d46df01f0735d94"), looks := false }, kinds := [], alts := [], laidByText := true, laidKinds := [.widerDeep], laidTests := true, laidLooks := .later }
def PolyValuesCardSaid : Prop := Claim7.holds Tryd.pinned (.plain (OpenSpec.ofChange polyValuesSpec)) polyValuesCard

/-- THE SECOND FORM's CARD OF 'attestorlaw03.PolyThroughs'. -/
def polyThroughsUptoCard : Claim7 := { stood := { row := polyThroughsUptoRow, standIns := [], harness := (true, "72769332833f7438d125bee3b65c546be0267466d42c54106d46df01f0735d94"), looks := false }, kinds := [], alts := [], laidByText := true, laidKinds := [.widerDeep], laidTests := true, laidLooks := .later }
def PolyThroughsUptoCardSaid : Prop := Claim7.holds Tryd.pinned (.plain (OpenSpec.upto polyThroughsSpec)) polyThroughsUptoCard

/-- THE SECOND FORM's CARD OF 'attestorlaw03.PolyDivides'. -/
def polyDividesUptoCard : Claim7 := { stood := { row := polyDividesUptoRow, standIns := [], harness := (true, "72769332833f7438d125bee3b65c546be0267466d42c54106d46df01f0735d94"), looks := false }, kinds := [], alts := [], laidByText := true, laidKinds := [.widerDeep], laidTests := true, laidLooks := .later }
def PolyDividesUptoCardSaid : Prop := Claim7.holds Tryd.pinned (.plain (OpenSpec.upto polyDividesSpec)) polyDividesUptoCard

/-- THE SECOND FORM's CARD OF 'attestorlaw03.PolyOne'. -/
def polyOneUptoCard : Claim7 := { stood := { row := polyOneUptoRow, standIns := [], harness := (true, "72769332833f7438d125bee3b65c546be0267466d42c54106d46df01f0735d94"), looks := false }, kinds := [], alts := [], laidByText := true, laidKinds := [.widerDeep], laidTests := true, laidLooks := .later }
def PolyOneUptoCardSaid : Prop := Claim7.holds Tryd.pinned (.plain (OpenSpec.upto polyOneSpec)) polyOneUptoCard

/-- THE SECOND FORM's CARD OF 'attestorlaw03.PolyRoots'. -/
def polyRootsUptoCard : Claim7 := { stood := { row := polyRootsUptoRow, standIns := [], harness := (true, "72769332833f7438d125bee3b65c546be0267466d42c54106d46df01f0735d94"), looks := false }, kinds := [], alts := [], laidByText := true, laidKinds := [.widerDeep], laidTests := true, laidLooks := .later }
def PolyRootsUptoCardSaid : Prop := Claim7.holds Tryd.pinned (.plain (OpenSpec.upto polyRootsSpec)) polyRootsUptoCard

/-- THE SECOND FORM's CARD OF 'attestorlaw03.PolyOps'. -/
def polyOpsUptoCard : Claim7 := { stood := { row := polyOpsUptoRow, standIns := [], harness := (true, "72769332833f7438d125bee3b65c546be0267466d42c54106d46df01f0735d94"), looks := false }, kinds := [], alts := [], laidByText := true, laidKinds := [.widerDeep], laidTests := true, laidLooks := .later }
def PolyOpsUptoCardSaid : Prop := Claim7.holds Tryd.pinned (.plain (OpenSpec.upto polyOpsSpec)) polyOpsUptoCard

/-- THE SECOND FORM's CARD OF 'attestorlaw03.PolyParts'. -/
def polyPartsUptoCard : Claim7 := { stood := { row := polyPartsUptoRow, standIns := [], harness := (true, "72769332833f7438d125bee3b65c546be0267466d42c54106d46df01f0735d94"), looks := false }, kinds := [], alts := [], laidByText := true, laidKinds := [.widerDeep], laidTests := true, laidLooks := .later }
def PolyPartsUptoCardSaid : Prop := Claim7.holds Tryd.pinned (.plain (OpenSpec.upto polyPartsSpec)) polyPartsUptoCard

/-- THE SECOND FORM's CARD OF 'attestorlaw03.PolyKnown'. -/
def polyKnownUptoCard : Claim7 := { stood := { row := polyKnownUptoRow, standIns := [], harness := (true, "72769332833f7438d125bee3b65c546be0267466d42c54106d46df01f0735d94"), looks := false }, kinds := [], alts := [], laidByText := true, laidKinds := [.widerDeep], laidTests := true, laidLooks := .later }
def PolyKnownUptoCardSaid : Prop := Claim7.holds Tryd.pinned (.plain (OpenSpec.upto polyKnownSpec)) polyKnownUptoCard

/-- THE SECOND FORM's CARD OF 'attestorlaw03.PolyValues'. -/
def polyValuesUptoCard : Claim7 := { stood := { row := polyValuesUptoRow, standIns := [], harness := (true, "72769332833f7438d125bee3b65c546be0267466d42c54106d46df01f0735d94"), looks := false }, kinds := [], alts := [], laidByText := true, laidKinds := [.widerDeep], laidTests := true, laidLooks := .later }
def PolyValuesUptoCardSaid : Prop := Claim7.holds Tryd.pinned (.plain (OpenSpec.upto polyValuesSpec)) polyValuesUptoCard
end Rows
end Go.Proofs.YtmnahhacobfafaaDoor
