/-
  DERIVED. GIVEN WITH THE SEED: THE CARDS: each row of YtdjjdlkglinlgaaDoorRows.lean that lists a variable, with what it lists TIED to the program's text (the seventh form; the later family's looks); each row that meets fmt, with fmt's text TOLD by the authors' own Lean function (tested against real Go, not proved from fmt's source: count such statements apart). THE CARD IS WHAT COUNTS. Prove the row's statement (the work); the ties are given (YtdjjdlkglinlgaaDoorTie.lean); close each card by the builder's one call (the guide's Derived/Test/ToyasCard.lean, 'card_holds'). Laid BY PROGRAM, IN A SANDBOX (cutbox-door.mjs). By AI agents, Wed Nov 11 2026. No macro, syntax, notation, axiom, sorry.
-/
import Derived.Test.YtdjjdlkglinlgaaDoorRows
import GoSem.ClaimSeven
namespace Go.Proofs.YtdjjdlkglinlgaaDoor
namespace Rows

/-- THE TIED CARD OF 'attestorlaw04.TransformValues'. -/
def transformValuesCard : Claim7 := { stood := { row := transformValuesRow, standIns := [], harness := (true, "84cb1b370aef54688c99a592fed403047385604627b5dae8f2f5bad7dfe2ee80"), looks := false }, kinds := [], alts := [], laidByText := true, laidKinds := [.widerDeep, .data, .data], laidTests := true, laidLooks := .later }
def TransformValuesCardSaid : Prop := Claim7.holds Tryd.pinned (.plain (OpenSpec.ofChange transformValuesSpec)) transformValuesCard

/-- THE TIED CARD OF 'attestorlaw04.TransformBack'. -/
def transformBackCard : Claim7 := { stood := { row := transformBackRow, standIns := [], harness := (true, "84cb1b370aef54688c99a592fed403047385604627b5dae8f2f5bad7dfe2ee80"), looks := false }, kinds := [], alts := [], laidByText := true, laidKinds := [.widerDeep, .data, .data], laidTests := true, laidLooks := .later }
def TransformBackCardSaid : Prop := Claim7.holds Tryd.pinned (.plain (OpenSpec.ofChange transformBackSpec)) transformBackCard

/-- THE TIED CARD OF 'attestorlaw04.TransformMultiplies'. -/
def transformMultipliesCard : Claim7 := { stood := { row := transformMultipliesRow, standIns := [], harness := (true, "84cb1b370aef54688c99a592fed403047385604627b5dae8f2f5bad7dfe2ee80"), looks := false }, kinds := [], alts := [], laidByText := true, laidKinds := [.widerDeep, .data, .data], laidTests := true, laidLooks := .later }
def TransformMultipliesCardSaid : Prop := Claim7.holds Tryd.pinned (.plain (OpenSpec.ofChange transformMultipliesSpec)) transformMultipliesCard

/-- THE TIED CARD OF 'attestorlaw04.TransformInverse'. -/
def transformInverseCard : Claim7 := { stood := { row := transformInverseRow, standIns := [], harness := (true, "84cb1b370aef54688c99a592fed403047385604627b5dae8f2f5bad7dfe2ee80"), looks := false }, kinds := [], alts := [], laidByText := true, laidKinds := [.widerDeep, .data, .data], laidTests := true, laidLooks := .later }
def TransformInverseCardSaid : Prop := Claim7.holds Tryd.pinned (.plain (OpenSpec.ofChange transformInverseSpec)) transformInverseCard

/-- THE TIED CARD OF 'attestorlaw04.TransformKnown'. -/
def transformKnownCard : Claim7 := { stood := { row := transformKnownRow, standIns := [], harness := (true, "84cb1b370aef54688c99a592fed403047385604627b5dae8f2f5bad7dfe2ee80"), looks := false }, kinds := [], alts := [], laidByText := true, laidKinds := [.widerDeep, .data, .data], laidTests := true, laidLooks := .later }
def TransformKnownCardSaid : Prop := Claim7.holds Tryd.pinned (.plain (OpenSpec.ofChange transformKnownSpec)) transformKnownCard

/-- THE TIED CARD OF 'attestorlaw04.TransformMeans'. -/
def transformMeansCard : Claim7 := { stood := { row := transformMeansRow, standIns := [], harness := (true, "84cb1b370aef54688c99a592fed403047385604627b5dae8f2f5bad7dfe2ee80"), looks := false }, kinds := [], alts := [], laidByText := true, laidKinds := [.widerDeep, .data, .data], laidTests := true, laidLooks := .later }
def TransformMeansCardSaid : Prop := Claim7.holds Tryd.pinned (.plain (OpenSpec.ofChange transformMeansSpec)) transformMeansCard

/-- THE TIED CARD OF 'attestorlaw04.TransformProducts'. -/
def transformProductsCard : Claim7 := { stood := { row := transformProductsRow, standIns := [], harness := (true, "84cb1b370aef54688c99a592fed403047385604627b5dae8f2f5bad7dfe2ee80"), looks := false }, kinds := [], alts := [], laidByText := true, laidKinds := [.widerDeep, .data, .data], laidTests := true, laidLooks := .later }
def TransformProductsCardSaid : Prop := Claim7.holds Tryd.pinned (.plain (OpenSpec.ofChange transformProductsSpec)) transformProductsCard

/-- THE SECOND FORM's CARD OF 'attestorlaw04.TransformValues'. -/
def transformValuesUptoCard : Claim7 := { stood := { row := transformValuesUptoRow, standIns := [], harness := (true, "84cb1b370aef54688c99a592fed403047385604627b5dae8f2f5bad7dfe2ee80"), looks := false }, kinds := [], alts := [], laidByText := true, laidKinds := [.widerDeep, .data, .data], laidTests := true, laidLooks := .later }
def TransformValuesUptoCardSaid : Prop := Claim7.holds Tryd.pinned (.plain (OpenSpec.upto transformValuesSpec)) transformValuesUptoCard

/-- THE SECOND FORM's CARD OF 'attestorlaw04.TransformBack'. -/
def transformBackUptoCard : Claim7 := { stood := { row := transformBackUptoRow, standIns := [], harness := (true, "84cb1b370aef54688c99a592fed403047385604627b5dae8f2f5bad7dfe2ee80"), looks := false }, kinds := [], alts := [], laidByText := true, laidKinds := [.widerDeep, .data, .data], laidTests := true, laidLooks := .later }
def TransformBackUptoCardSaid : Prop := Claim7.holds Tryd.pinned (.plain (OpenSpec.upto transformBackSpec)) transformBackUptoCard

/-- THE SECOND FORM's CARD OF 'attestorlaw04.TransformMultiplies'. -/
def transformMultipliesUptoCard : Claim7 := { stood := { row := transformMultipliesUptoRow, standIns := [], harness := (true, "84cb1b370aef54688c99a592fed403047385604627b5dae8f2f5bad7dfe2ee80"), looks := false }, kinds := [], alts := [], laidByText := true, laidKinds := [.widerDeep, .data, .data], laidTests := true, laidLooks := .later }
def TransformMultipliesUptoCardSaid : Prop := Claim7.holds Tryd.pinned (.plain (OpenSpec.upto transformMultipliesSpec)) transformMultipliesUptoCard

/-- THE SECOND FORM's CARD OF 'attestorlaw04.TransformInverse'. -/
def transformInverseUptoCard : Claim7 := { stood := { row := transformInverseUptoRow, standIns := [], harness := (true, "84cb1b370aef54688c99a592fed403047385604627b5dae8f2f5bad7dfe2ee80"), looks := false }, kinds := [], alts := [], laidByText := true, laidKinds := [.widerDeep, .data, .data], laidTests := true, laidLooks := .later }
def TransformInverseUptoCardSaid : Prop := Claim7.holds Tryd.pinned (.plain (OpenSpec.upto transformInverseSpec)) transformInverseUptoCard

/-- THE SECOND FORM's CARD OF 'attestorlaw04.TransformKnown'. -/
def transformKnownUptoCard : Claim7 := { stood := { row := transformKnownUptoRow, standIns := [], harness := (true, "84cb1b370aef54688c99a592fed403047385604627b5dae8f2f5bad7dfe2ee80"), looks := false }, kinds := [], alts := [], laidByText := true, laidKinds := [.widerDeep, .data, .data], laidTests := true, laidLooks := .later }
def TransformKnownUptoCardSaid : Prop := Claim7.holds Tryd.pinned (.plain (OpenSpec.upto transformKnownSpec)) transformKnownUptoCard

/-- THE SECOND FORM's CARD OF 'attestorlaw04.TransformMeans'. -/
def transformMeansUptoCard : Claim7 := { stood := { row := transformMeansUptoRow, standIns := [], harness := (true, "84cb1b370aef54688c99a592fed403047385604627b5dae8f2f5bad7dfe2ee80"), looks := false }, kinds := [], alts := [], laidByText := true, laidKinds := [.widerDeep, .data, .data], laidTests := true, laidLooks := .later }
def TransformMeansUptoCardSaid : Prop := Claim7.holds Tryd.pinned (.plain (OpenSpec.upto transformMeansSpec)) transformMeansUptoCard

/-- THE SECOND FORM's CARD OF 'attestorlaw04.TransformProducts'. -/
def transformProductsUptoCard : Claim7 := { stood := { row := transformProductsUptoRow, standIns := [], harness := (true, "84cb1b370aef54688c99a592fed403047385604627b5dae8f2f5bad7dfe2ee80"), looks := false }, kinds := [], alts := [], laidByText := true, laidKinds := [.widerDeep, .data, .data], laidTests := true, laidLooks := .later }
def TransformProductsUptoCardSaid : Prop := Claim7.holds Tryd.pinned (.plain (OpenSpec.upto transformProductsSpec)) transformProductsUptoCard
end Rows
end Go.Proofs.YtdjjdlkglinlgaaDoor
